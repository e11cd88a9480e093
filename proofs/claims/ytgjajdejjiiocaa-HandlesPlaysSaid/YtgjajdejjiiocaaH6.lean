/- The program's table: Get, Close. -/
import Derived.Test.YtgjajdejjiiocaaH5
namespace Go.Proofs.Ytgjajdejjiiocaa.Q
open Go.RowKit Go.Proofs.YtgjajdejjiiocaaW.PrintWords Go.Proofs.YtgjajdejjiiocaaW.PrintLast Go.Proofs.Ytgjajdejjiiocaa.Sep
set_option linter.unusedVariables false
set_option linter.unusedSimpArgs false
def getS (S : List (Option Fl)) (h : Int) : Fl × Int := if 0 ≤ h then (match S[h.toNat]? with | some (some f) => (f, 0) | _ => ((0, 0, 0), 9)) else ((0, 0, 0), 9)
def RetPost (w : World) (v : Value) (e : Ending) (w' : World) : Prop := e = .returned v ∧ Below w.heap.size w w'
def aggF (f : Fl) : Value := .agg (fcells f).toArray
section
variable {w : World} {B t : Nat} {as_ : List (Option Nat)} {S : List (Option Fl)}
theorem set3 {w : World} {b : Nat} {ty : TypeId} {f g : Fl} (h : w.heap[b]? = some (Cl (fcells f) ty)) :
    (((w.setCell ⟨b, 0, none⟩ (.int .i64 g.1)).setCell ⟨b, 1, none⟩ (.int .i64 g.2.1)).setCell ⟨b, 2, none⟩ (.int .i64 g.2.2)).heap[b]? = some (Cl (fcells g) ty) :=
  heap_set _ (heap_set _ (heap_set _ h))
theorem below3 {w0 w : World} {b : Nat} (u v x : Value) (h : Below w0.heap.size w0 w) (hb : w0.heap.size ≤ b) : Below w0.heap.size w0 (((w.setCell ⟨b, 0, none⟩ u).setCell ⟨b, 1, none⟩ v).setCell ⟨b, 2, none⟩ x) :=
  ((h.setCell (p := ⟨b, 0, none⟩) hb u).setCell (p := ⟨b, 1, none⟩) hb v).setCell (p := ⟨b, 2, none⟩) hb x
theorem Get_some (h : Nat) (f : Fl) (a : Nat) (hl : h < 32) (hcell : w.heap[t]? = some (Cl (as_.map pv) 52)) (ha : as_[h]? = some (some a)) (hc : w.heap[a]? = some (Cl (fcells f) 44)) : Calls Try.prog 22 #[.pointer (some ⟨t, 0, none⟩), .int .i64 h] w (RetPost w (.tuple #[aggF f, .int .i64 0])) := by
  have HZ := Aside0.mk (heap_new w (Cl (fcells (0, 0, 0)) 44))
  have hcl := cell_of (heap_old (Cl (fcells (0, 0, 0)) 44) hcell) (i := h) (v := .pointer (some ⟨a, 0, none⟩)) (by rw [List.getElem?_map, ha]; rfl)
  have p0 := cell_of (heap_old (Cl (fcells (0, 0, 0)) 44) hc) (i := 0) rfl
  have p1 := cell_of (heap_old (Cl (fcells (0, 0, 0)) 44) hc) (i := 1) rfl
  have p2 := cell_of (heap_old (Cl (fcells (0, 0, 0)) 44) hc) (i := 2) rfl
  have n0 := cell_of HZ.out (i := 0) rfl
  have n1 := cell_of HZ.out (i := 1) rfl
  have n2 := cell_of HZ.out (i := 2) rfl
  have f0 := frozen_of HZ.out 0
  have f1 := frozen_of HZ.out 1
  have f2 := frozen_of HZ.out 2
  clear hcell ha hc
  unfold fcells at p0 p1 p2 n0 n1 n2 f0 f1 f2 hcl
  go_enter Try.func22, Try.ntmps22
  go_wp2_with (go_at_call 24; (with_reducible refine (get_some h a hl (by exact hcl)).mono ?_); rintro e w' ⟨rfl, rfl⟩)
  refine bodyPost_ret (results_ct rfl _ _ w.heap.size 44 _ (0, 0) _ rfl (heap_new w _) Try.underlying44 rfl (by kernel_rfl)) rfl ?_
  exact ⟨rfl, (Below.refl _ _).alloc (Nat.le_refl _) _⟩
theorem Get_bad (h : Int) (v : Option Addr) (e : Int) (he : e = 9 ∨ e = 14) (hg : ∀ w', w'.heap[t]? = w.heap[t]? → Calls Try.prog 24 #[.pointer v, .int .i64 h] w' fun e1 w'' => e1 = .returned (.tuple #[.pointer none, .int .i64 e]) ∧ w' = w'') (ht : t < w.heap.size) : Calls Try.prog 22 #[.pointer v, .int .i64 h] w (RetPost w (.tuple #[aggF (0, 0, 0), .int .i64 e])) := by
  have HZ := Aside0.mk (heap_new w (Cl (fcells (0, 0, 0)) 44))
  have n0 := cell_of HZ.out (i := 0) rfl
  have n1 := cell_of HZ.out (i := 1) rfl
  have n2 := cell_of HZ.out (i := 2) rfl
  have f0 := frozen_of HZ.out 0
  have f1 := frozen_of HZ.out 1
  have f2 := frozen_of HZ.out 2
  have hgs := Aside0.mk hg
  clear hg
  unfold fcells at n0 n1 n2 f0 f1 f2
  rcases he with rfl | rfl
  all_goals
    go_enter Try.func22, Try.ntmps22
    go_wp2_with (go_at_call 24; (with_reducible refine (hgs.out _ (by exact Below.heap_alloc _ _ _ ht)).mono ?_); rintro e w' ⟨rfl, rfl⟩)
    refine bodyPost_ret (results_ct rfl _ _ w.heap.size 44 _ (0, 0) _ rfl (heap_new w _) Try.underlying44 rfl (by kernel_rfl)) rfl ?_
    exact ⟨rfl, (Below.refl _ _).alloc (Nat.le_refl _) _⟩
theorem Get_calls (h : Int) (hT : Tab w B t as_ S) : Calls Try.prog 22 #[.pointer (some ⟨t, 0, none⟩), .int .i64 h] w (RetPost w (.tuple #[aggF (getS S h).1, .int .i64 (getS S h).2])) := by
  by_cases h0 : 0 ≤ h ∧ h < 32
  · obtain ⟨k, rfl⟩ := Int.eq_ofNat_of_zero_le h0.1
    have hk : k < 32 := by omega
    rcases hT.at_ hk with ⟨ha, hs⟩ | ⟨a, f, ha, hs, hba, hc⟩
    · unfold getS
      rw [if_pos h0.1, Int.toNat_natCast, hs]
      refine Get_bad (t := t) _ _ 9 (.inl rfl) (fun w' hw => get_none k hk ?_) (Only.lt hT.blk)
      exact cell_of (hw.trans hT.blk) (by rw [List.getElem?_map, ha]; rfl)
    · unfold getS
      rw [if_pos h0.1, Int.toNat_natCast, hs]
      exact Get_some k f a hk hT.blk ha hc
  · have : getS S h = ((0, 0, 0), 9) := by
      unfold getS
      split
      · have : S[h.toNat]? = none := List.getElem?_eq_none (by rw [hT.ls]; omega)
        rw [this]
      · rfl
    rw [this]
    exact Get_bad (t := t) _ _ 9 (.inl rfl) (fun w' hw => get_out h (by omega)) (Only.lt hT.blk)
theorem Get_nil (h : Int) (w : World) : Calls Try.prog 22 #[.pointer none, .int .i64 h] w (RetPost w (.tuple #[aggF (0, 0, 0), .int .i64 14])) := by
  have HZ := Aside0.mk (heap_new w (Cl (fcells (0, 0, 0)) 44))
  have n0 := cell_of HZ.out (i := 0) rfl
  have n1 := cell_of HZ.out (i := 1) rfl
  have n2 := cell_of HZ.out (i := 2) rfl
  have f0 := frozen_of HZ.out 0
  have f1 := frozen_of HZ.out 1
  have f2 := frozen_of HZ.out 2
  unfold fcells at n0 n1 n2 f0 f1 f2
  go_enter Try.func22, Try.ntmps22
  go_wp2_with (go_at_call 24; (with_reducible refine (get_nil h).mono ?_); rintro e w' ⟨rfl, rfl⟩)
  refine bodyPost_ret (results_ct rfl _ _ w.heap.size 44 _ (0, 0) _ rfl (heap_new w _) Try.underlying44 rfl (by kernel_rfl)) rfl ?_
  exact ⟨rfl, (Below.refl _ _).alloc (Nat.le_refl _) _⟩
end
end Go.Proofs.Ytgjajdejjiiocaa.Q
