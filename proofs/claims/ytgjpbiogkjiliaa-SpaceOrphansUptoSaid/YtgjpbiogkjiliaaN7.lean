/- Small words for node.Entry. -/
import Derived.Test.YtgjpbiogkjiliaaN2
import Derived.Test.YtgjpbiogkjiliaaQ8
namespace Go.Proofs.Ytgjpbiogkjiliaa.Q
open Go.RowKit Go.Proofs.YtgjpbiogkjiliaaW.PrintWords Go.Proofs.YtgjpbiogkjiliaaW.PrintLast Go.Proofs.YtgjpbiogkjiliaaW.PrintMore
set_option linter.unusedVariables false
set_option linter.unusedSimpArgs false
theorem u64_wrap {n : Int} (h0 : 0 ≤ n) (h1 : n < 18446744073709551616) : IntKind.u64.wrap n = n := by
  rw [IntKind.wrap_u64]
  omega
theorem Writer.fresh (w : World) : Writer (w.alloc (.cells #[.slice none 0 0] 60)) w.heap.size w.heap.size (.slice none 0 0) [] :=
  ⟨by show (w.heap.push _)[w.heap.size]? = _; rw [Array.getElem?_push_size], Kd.R_nil _ _ _ _ _, Nat.le_refl _⟩
def Blk (w : World) (b : Nat) (cs : Array Value) (t : Nat) : Prop := w.heap[b]? = some (.cells cs t (0, 0))
theorem Blk.lt {w : World} {b : Nat} {cs : Array Value} {t : Nat} (h : Blk w b cs t) : b < w.heap.size := (Array.getElem?_eq_some_iff.1 h).1
theorem Blk.fresh (w : World) (cs : Array Value) (t : Nat) : Blk (w.alloc (.cells cs t)) w.heap.size cs t := by
  show (w.heap.push _)[w.heap.size]? = _
  rw [Array.getElem?_push_size]
theorem Blk.below {w w1 : World} {B b : Nat} {cs : Array Value} {t : Nat} (h : Blk w b cs t) (hb : Below B w w1) (hB : b < B) : Blk w1 b cs t := (hb.block b hB).trans h
theorem Blk.alloc {w : World} {b : Nat} {cs : Array Value} {t : Nat} (h : Blk w b cs t) (o : Obj) : Blk (w.alloc o) b cs t := h.below (below_alloc (Below.refl _ _) o) h.lt
theorem Blk.drew {w : World} {b : Nat} {cs : Array Value} {t : Nat} (h : Blk w b cs t) : Blk w.drew b cs t := h
theorem Blk.cell {w : World} {b : Nat} {cs : Array Value} {t : Nat} (h : Blk w b cs t) (i : Nat) (v : Value) (hv : cs[i]? = some v) : w.cell? ⟨b, i, none⟩ = some v := by
  unfold Blk at h
  simp [World.cell?, h, hv]
theorem Blk.frozen {w : World} {b : Nat} {cs : Array Value} {t : Nat} (h : Blk w b cs t) (i : Nat) : w.frozen? ⟨b, i, none⟩ = false := by
  unfold Blk at h
  simp [World.frozen?, h]
theorem stored {w w1 : World} {b : Nat} (h : Blk w1 b #[.string ⟨#[]⟩, .string ⟨#[]⟩, .bool false] 37) (hb : Below w.heap.size w w1) (hg : w.heap.size ≤ b) (k v : ByteArray) :
    (((w1.setCell ⟨b, 0, none⟩ (.string k)).setCell ⟨b, 1, none⟩ (.string v)).setCell ⟨b, 2, none⟩ (.bool false)).heap[b]? = some (.cells #[.string k, .string v, .bool false] 37 (0, 0)) ∧
    Below w.heap.size w (((w1.setCell ⟨b, 0, none⟩ (.string k)).setCell ⟨b, 1, none⟩ (.string v)).setCell ⟨b, 2, none⟩ (.bool false)) := by
  refine ⟨?_, ((hb.setCell (p := ⟨b, 0, none⟩) hg _).setCell (p := ⟨b, 1, none⟩) hg _).setCell (p := ⟨b, 2, none⟩) hg _⟩
  have h1 := heap_setCell_same w1 b 0 _ 37 (.string k) h
  have h2 := heap_setCell_same _ b 1 _ 37 (.string v) h1
  have h3 := heap_setCell_same _ b 2 _ 37 (.bool false) h2
  simpa using h3
theorem put_f (n : Int) (h0 : 0 ≤ n) (h1 : n ≤ 100000) : bits_Put.f (IntKind.u64.wrap n) 1 = some (leBytes n 1) ∧ bits_Put.f (IntKind.u64.wrap n) 2 = some (leBytes n 2) ∧ bits_Put.f (IntKind.u64.wrap n) 4 = some (leBytes n 4) := by
  rw [u64_wrap (by omega) (by omega)]
  exact ⟨rfl, rfl, rfl⟩
theorem Stays.blk {w w1 : World} {g b t : Nat} {cs : Array Value} (h : Stays w w1 g) (hb : Blk w b cs t) (ht : t ≠ 5) (hg : b ≠ g) : Blk w1 b cs t := h b cs t ht hg hb
theorem Writer.text {w : World} {base g : Nat} {v : Value} {xs : List Int} (h : Writer w base g v xs) : (convert 58 9 v).run Try.prog w = .ok (.string (strOfNums xs)) w :=
  own_string Try.underlying58 Try.underlying5 Try.underlying9 (Kd.own_of_R h.row)
theorem goodIno_f (a : Int) (r : Bool) (h : (decide (1 ≤ a) && decide (a ≤ 4096)) = r) : node_goodIno.f a = some r := by
  subst h
  unfold node_goodIno.f
  by_cases h0 : a ≥ 1
  · rw [if_pos h0]; simp; omega
  · rw [if_neg h0]; simp; omega
theorem goodKind_f (a : Int) (r : Bool) (h : (decide (1 ≤ a) && decide (a ≤ 3)) = r) : node_goodKind.f a = some r := by
  subst h
  unfold node_goodKind.f
  by_cases h0 : a ≥ 1
  · rw [if_pos h0]; simp; omega
  · rw [if_neg h0]; simp; omega
end Go.Proofs.Ytgjpbiogkjiliaa.Q
