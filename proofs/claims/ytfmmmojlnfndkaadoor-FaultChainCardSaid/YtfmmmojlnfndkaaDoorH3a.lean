/- The examples of the chapter (alive) hold, where errors.errorType and the table of powers are laid. -/
import Derived.Test.YtfmmmojlnfndkaaDoorH1
import Derived.Test.YtfmmmojlnfndkaaDoorQ3
namespace Go.Proofs.YtfmmmojlnfndkaaDoor.As
open Go.RowKit Go.Proofs.YtfmmmojlnfndkaaDoorW.PrintWords Go.Proofs.YtfmmmojlnfndkaaDoorW.PrintLast Go.Extern.Stop Go.Stop Go.Extern Go.Proofs.YtfmmmojlnfndkaaDoor.Q
/-- Where alive stands: the variables laid, the block of the error as it was made. -/
def St (w0 : World) (b : Nat) (w : World) : Prop := Laid w ∧ w.heap[b]? = some (.cells #[.string ⟨#[111, 112, 101, 110]⟩, .string ⟨#[47, 97]⟩, .iface 22 (.int .i64 2)] 46) ∧ Below w0.heap.size w0 w
theorem St.on {w0 w w' : World} {b : Nat} (h : St w0 b w) (hb : Below w.heap.size w w') : St w0 b w' :=
  ⟨h.1.on hb, heap_below hb h.2.1, below_step h.2.2 hb⟩
theorem St.laid {w0 w : World} {b : Nat} (h : St w0 b w) : Laid w := h.1
theorem St.bel {w0 w : World} {b : Nat} (h : St w0 b w) : Below w0.heap.size w0 w := h.2.2
theorem St.c0 {w0 w : World} {b : Nat} (h : St w0 b w) : w.cell? ⟨b, 0, none⟩ = some (.string ⟨#[111, 112, 101, 110]⟩) := by simp only [World.cell?, h.2.1]; rfl
theorem St.c1 {w0 w : World} {b : Nat} (h : St w0 b w) : w.cell? ⟨b, 1, none⟩ = some (.string ⟨#[47, 97]⟩) := by simp only [World.cell?, h.2.1]; rfl
theorem St.c2 {w0 w : World} {b : Nat} (h : St w0 b w) : w.cell? ⟨b, 2, none⟩ = some (.iface 22 (.int .i64 2)) := by simp only [World.cell?, h.2.1]; rfl
theorem laid_pos {w : World} (h : Laid w) : 0 < w.heap.size := by
  rcases Nat.eq_zero_or_pos w.heap.size with h0 | h1
  · have := h.1; simp [World.cell?, h0] at this
  · exact h1
theorem asB (w0 w : World) (b : Nat) (h : St w0 b w) :
    Calls Tryd.prog 21 #[.iface 40 (.pointer (some ⟨b, 0, none⟩)), .iface 42 (.pointer (some ⟨w.heap.size, 0, none⟩))] (w.alloc (.cells #[.pointer none] 40)) fun ev w' => ev = .returned (.bool true) ∧ w'.cell? ⟨w.heap.size, 0, none⟩ = some (.pointer (some ⟨b, 0, none⟩)) ∧ St w0 b w' := by
  have h0 : (w.alloc (.cells #[.pointer none] 40)).cell? ⟨0, 0, none⟩ = some (.iface 93 (.agg #[.pointer (some ⟨4, 32, none⟩)])) := by
    rw [World.cell?_alloc_lt _ _ ⟨0, 0, none⟩ (laid_pos h.1)]; exact h.1.et
  have h1 : (w.alloc (.cells #[.pointer none] 40)).cell? ⟨w.heap.size, 0, none⟩ = some (.pointer none) := by simp
  have h2 : (w.alloc (.cells #[.pointer none] 40)).frozen? ⟨w.heap.size, 0, none⟩ = false := by
    have h := heap_new w (.cells #[.pointer none] 40)
    simp only [World.frozen?, h]
    rfl
  refine (as_hit40 ⟨b, 0, none⟩ ⟨w.heap.size, 0, none⟩ (.pointer none) (w.alloc (.cells #[.pointer none] 40)) h0 h1 h2).mono ?_
  rintro ev w' ⟨rfl, rfl⟩
  have hb : Below w.heap.size w ((((((w.alloc (.cells #[.pointer none] 40)).alloc (.cells #[.pointer (some ⟨w.heap.size, 0, none⟩)] 42)).alloc (.cells #[.pointer (some ⟨4, 42, none⟩), .pointer (some ⟨(w.alloc (.cells #[.pointer none] 40)).heap.size, 0, none⟩), .int .u64 150] 77)).alloc (.cells #[.pointer (some ⟨4, 42, none⟩), .pointer (some ⟨(w.alloc (.cells #[.pointer none] 40)).heap.size, 0, none⟩), .int .u64 150] 77)).alloc (.cells #[.pointer (some ⟨b, 0, none⟩)] 40)).setCell ⟨w.heap.size, 0, none⟩ (.pointer (some ⟨b, 0, none⟩))) := by
    refine Below.setCell (p := ⟨w.heap.size, 0, none⟩) ?_ (Nat.le_refl w.heap.size) _
    repeat (refine Below.alloc ?_ (by simp <;> omega) _)
    exact Below.refl _ _
  refine ⟨rfl, ?_, h.on hb⟩
  have hx := one_setCell (u := .pointer (some ⟨b, 0, none⟩)) (heap_old (.cells #[.pointer (some ⟨b, 0, none⟩)] 40) (heap_old (.cells #[.pointer (some ⟨4, 42, none⟩), .pointer (some ⟨(w.alloc (.cells #[.pointer none] 40)).heap.size, 0, none⟩), .int .u64 150] 77) (heap_old (.cells #[.pointer (some ⟨4, 42, none⟩), .pointer (some ⟨(w.alloc (.cells #[.pointer none] 40)).heap.size, 0, none⟩), .int .u64 150] 77) (heap_old (.cells #[.pointer (some ⟨w.heap.size, 0, none⟩)] 42) (heap_new w (.cells #[.pointer none] 40))))))
  simp only [World.cell?, hx]
  rfl
theorem wrap1 (w : World) (hL : Laid w) : Calls Tryd.prog 25 #[.string ⟨#[111, 112, 101, 110]⟩, .string ⟨#[47, 97]⟩, .iface 22 (.int .i64 2)] w fun ev w' => ∃ b, ev = .returned (.iface 40 (.pointer (some ⟨b, 0, none⟩))) ∧ St w b w' := by
  refine (wrapA _ _ 2 w (by decide) hL.et).mono ?_
  rintro ev w' ⟨b, rfl, h1, h2, h3⟩
  exact ⟨b, rfl, hL.on h3, h2, h3⟩
theorem find1 : fault_Find.f 40 ⟨#[69, 82, 79, 70, 83]⟩ = some (30, true) := by kernel_rfl
theorem name1 : fault_Name.f 40 40 = some ⟨#[69, 76, 79, 79, 80]⟩ := by kernel_rfl
end Go.Proofs.YtfmmmojlnfndkaaDoor.As
