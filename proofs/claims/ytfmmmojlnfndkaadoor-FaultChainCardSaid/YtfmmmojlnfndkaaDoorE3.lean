import Derived.Test.YtfmmmojlnfndkaaDoorE2
import Derived.Test.YtfmmmojlnfndkaaDoorQ1
import Derived.OneCell
namespace Go.Proofs.YtfmmmojlnfndkaaDoor.As
open Go.RowKit Go.Proofs.YtfmmmojlnfndkaaDoorW.PrintWords Go.Proofs.YtfmmmojlnfndkaaDoorW.PrintLast Go.Extern.Stop Go.Stop Go.Extern
theorem heap_new (w : World) (o : Obj) : (w.alloc o).heap[w.heap.size]? = some o := by
  show (w.heap.push o)[w.heap.size]? = _
  simp
theorem heap_old {w : World} {b : Nat} {x : Obj} (o : Obj) (h : w.heap[b]? = some x) : (w.alloc o).heap[b]? = some x := by
  have hb := (Array.getElem?_eq_some_iff.1 h).1
  show (w.heap.push o)[b]? = _
  rw [Array.getElem?_push_lt hb, ← h, Array.getElem?_eq_getElem hb]
theorem frz (w : World) (e : Int) : (w.alloc (.cells #[.int .i64 e] 22)).frozen? ⟨w.heap.size, 0, none⟩ = false := by
  have h := heap_new w (.cells #[.int .i64 e] 22)
  simp only [World.frozen?, h]
  rfl
/-- How errors.As ends where it finds the errno e, the target being the block b. -/
def AsPost (e : Int) (b : Nat) (w0 : World) (ev : Ending) (w' : World) : Prop := ev = .returned (.bool true) ∧ w'.cell? ⟨b, 0, none⟩ = some (.int .i64 e) ∧ Below w0.heap.size w0 w'
theorem post_of (e : Int) (w : World) (o1 o2 o3 o4 : Obj) : AsPost e w.heap.size w (.returned (.bool true)) ((((((w.alloc (.cells #[.int .i64 0] 22)).alloc o1).alloc o2).alloc o3).alloc o4).setCell ⟨w.heap.size, 0, none⟩ (.int .i64 e)) := by
  refine ⟨rfl, ?_, ?_⟩
  · have h := one_setCell (u := .int .i64 e) (heap_old o4 (heap_old o3 (heap_old o2 (heap_old o1 (heap_new w (.cells #[.int .i64 0] 22))))))
    simp only [World.cell?, h]
    rfl
  · refine Below.setCell (p := ⟨w.heap.size, 0, none⟩) ?_ (Nat.le_refl w.heap.size) _
    repeat (refine Below.alloc ?_ (by simp <;> omega) _)
    exact Below.refl _ _
theorem ofA (e : Int) (w : World) (hg : w.cell? ⟨0, 0, none⟩ = some (.iface 93 (.agg #[.pointer (some ⟨4, 32, none⟩)]))) :
    Calls Tryd.prog 21 #[.iface 22 (.int .i64 e), .iface 73 (.pointer (some ⟨w.heap.size, 0, none⟩))] (w.alloc (.cells #[.int .i64 0] 22)) (AsPost e w.heap.size w) := by
  have hlt : 0 < w.heap.size := by
    rcases Nat.eq_zero_or_pos w.heap.size with h0 | h
    · simp [World.cell?, h0] at hg
    · exact h
  have h0 : (w.alloc (.cells #[.int .i64 0] 22)).cell? ⟨0, 0, none⟩ = some (.iface 93 (.agg #[.pointer (some ⟨4, 32, none⟩)])) := by
    rw [World.cell?_alloc_lt _ _ ⟨0, 0, none⟩ hlt]; exact hg
  have h1 : (w.alloc (.cells #[.int .i64 0] 22)).cell? ⟨w.heap.size, 0, none⟩ = some (.int .i64 0) := by simp
  refine (as_hit22 e ⟨w.heap.size, 0, none⟩ (.int .i64 0) (w.alloc (.cells #[.int .i64 0] 22)) h0 h1 (frz w 0)).mono ?_
  rintro ev w' ⟨rfl, rfl⟩
  exact post_of e w _ _ _ _
/-- fault.Of. -/
theorem ofA_calls (e : Int) (w : World) (hg : w.cell? ⟨0, 0, none⟩ = some (.iface 93 (.agg #[.pointer (some ⟨4, 32, none⟩)]))) :
    Calls Tryd.prog 18 #[.iface 22 (.int .i64 e)] w fun ev w' => ev = .returned (.int .i64 e) ∧ Below w.heap.size w w' := by
  have hA := ofA e w hg
  clear hg
  go_enter Tryd.func18, Tryd.ntmps18
  go_wp2_with (first | ((with_reducible refine gate_callee (f := 21) rfl ?_); refine goesL_ (some 8) rfl rfl Tryd.func21 (by kernel_rfl) rfl #[.iface 22 (.int .i64 e), .iface 73 (.pointer (some ⟨w.heap.size, 0, none⟩))] rfl (by (try simp only [List.map_toArray, List.map_cons, List.map_nil]); first | done | rfl) ?_; (with_reducible refine (hA).mono ?_); rintro e' w' ⟨rfl, hc, hb⟩; refine ⟨_, rfl, ?_⟩))
  all_goals (try go_wp2)
  all_goals (try (go_ret; exact ⟨rfl, hb⟩))
theorem ofB (e : Int) (b : Nat) (w : World) (hb : w.cell? ⟨b, 2, none⟩ = some (.iface 22 (.int .i64 e))) (hg : w.cell? ⟨0, 0, none⟩ = some (.iface 93 (.agg #[.pointer (some ⟨4, 32, none⟩)]))) :
    Calls Tryd.prog 21 #[.iface 40 (.pointer (some ⟨b, 0, none⟩)), .iface 73 (.pointer (some ⟨w.heap.size, 0, none⟩))] (w.alloc (.cells #[.int .i64 0] 22)) (AsPost e w.heap.size w) := by
  have hlt : 0 < w.heap.size := by
    rcases Nat.eq_zero_or_pos w.heap.size with h0 | h
    · simp [World.cell?, h0] at hg
    · exact h
  have hbl : b < w.heap.size := by
    rcases Nat.lt_or_ge b w.heap.size with h | h
    · exact h
    · simp [World.cell?, Array.getElem?_eq_none h] at hb
  have hb1 : (w.alloc (.cells #[.int .i64 0] 22)).cell? ⟨b, 2, none⟩ = some (.iface 22 (.int .i64 e)) := by
    rw [World.cell?_alloc_lt _ _ ⟨b, 2, none⟩ hbl]; exact hb
  have h0 : (w.alloc (.cells #[.int .i64 0] 22)).cell? ⟨0, 0, none⟩ = some (.iface 93 (.agg #[.pointer (some ⟨4, 32, none⟩)])) := by
    rw [World.cell?_alloc_lt _ _ ⟨0, 0, none⟩ hlt]; exact hg
  have h1 : (w.alloc (.cells #[.int .i64 0] 22)).cell? ⟨w.heap.size, 0, none⟩ = some (.int .i64 0) := by simp
  refine (as_step22 e b ⟨w.heap.size, 0, none⟩ (.int .i64 0) (w.alloc (.cells #[.int .i64 0] 22)) hb1 h0 h1 (frz w 0)).mono ?_
  rintro ev w' ⟨rfl, rfl⟩
  exact post_of e w _ _ _ _
/-- fault.Of. -/
theorem ofB_calls (e : Int) (b : Nat) (w : World) (hb : w.cell? ⟨b, 2, none⟩ = some (.iface 22 (.int .i64 e))) (hg : w.cell? ⟨0, 0, none⟩ = some (.iface 93 (.agg #[.pointer (some ⟨4, 32, none⟩)]))) :
    Calls Tryd.prog 18 #[.iface 40 (.pointer (some ⟨b, 0, none⟩))] w fun ev w' => ev = .returned (.int .i64 e) ∧ Below w.heap.size w w' := by
  have hA := ofB e b w hb hg
  clear hg hb
  go_enter Tryd.func18, Tryd.ntmps18
  go_wp2_with (first | ((with_reducible refine gate_callee (f := 21) rfl ?_); refine goesL_ (some 8) rfl rfl Tryd.func21 (by kernel_rfl) rfl #[.iface 40 (.pointer (some ⟨b, 0, none⟩)), .iface 73 (.pointer (some ⟨w.heap.size, 0, none⟩))] rfl (by (try simp only [List.map_toArray, List.map_cons, List.map_nil]); first | done | rfl) ?_; (with_reducible refine (hA).mono ?_); rintro e' w' ⟨rfl, hc, hb⟩; refine ⟨_, rfl, ?_⟩))
  all_goals (try go_wp2)
  all_goals (try (go_ret; exact ⟨rfl, hb⟩))
end Go.Proofs.YtfmmmojlnfndkaaDoor.As
