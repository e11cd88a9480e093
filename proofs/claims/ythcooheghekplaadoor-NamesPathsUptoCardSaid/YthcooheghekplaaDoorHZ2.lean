/- The document's Parent: the parts themselves, cut by the last one. -/
import Derived.Test.YthcooheghekplaaDoorHZ1
import Derived.Test.YthcooheghekplaaDoorH2
import Derived.Deep.RegionHeld3
namespace Go.Proofs.YthcooheghekplaaDoor.Z
open Go.RowKit Go.Shelf Go.Proofs.YthcooheghekplaaDoorW.PrintWords Go.Proofs.YthcooheghekplaaDoor.Cut
set_option linter.unusedVariables false
set_option linter.unusedSimpArgs false
def RefPost (l : List ByteArray) (b : Bool) (x : ByteArray) (w : World) (e : Ending) (w' : World) : Prop :=
  ∃ A c, e = .returned (.tuple #[.agg #[.slice A l.length c, .bool b], .string x]) ∧ l.length ≤ c ∧ Kd.C Kd.string w' A l.length l ∧ Below w.heap.size w w'
theorem keep2 {W : World} {r q k : Nat} {u v1 v2 : Value} (h : W.cell? ⟨q, k, none⟩ = some u) (hq : q < r + 1) : ((W.setCell ⟨r + 1, 0, none⟩ v1).setCell ⟨r + 1, 1, none⟩ v2).drew.cell? ⟨q, k, none⟩ = some u :=
  (((((Below.refl (r + 1) W).setCell (p := ⟨r + 1, 0, none⟩) (Nat.le_refl _) v1).setCell (p := ⟨r + 1, 1, none⟩) (Nat.le_refl _) v2)).cell (p := ⟨q, k, none⟩) hq).trans h
set_option maxRecDepth 100000 in
set_option maxHeartbeats 4000000 in
theorem refParent_nil (A : Option Addr) (c : Nat) (s : Bool) (w : World) (hC : Kd.C Kd.string w A 0 []) :
    Calls Tryd.prog 21 #[.agg #[.slice A 0 c, .bool s]] w (RefPost [] s ⟨#[]⟩ w) := by
  have HC := Aside0.mk hC
  clear hC
  go_enter Tryd.func21, Tryd.ntmps21
  go_wp2
  have hg : ((w.alloc (.cells #[.slice A 0 c, .bool s] 28)).alloc (.cells #[.slice A 0 c, .bool s] 28)).heap[w.heap.size + 1]? = some (.cells #[.slice A 0 c, .bool s] 28 (0, 0)) := by
    have := blk_new (w.alloc (.cells #[.slice A 0 c, .bool s] 28)) (.cells #[.slice A 0 c, .bool s] 28)
    rwa [World.size_alloc] at this
  have hb : Below w.heap.size w ((w.alloc (.cells #[.slice A 0 c, .bool s] 28)).alloc (.cells #[.slice A 0 c, .bool s] 28)) := ((Below.refl _ w).alloc (Nat.le_refl _) _).alloc (by rw [World.size_alloc]; omega) _
  refine bodyPost_ret (results_ct rfl _ _ (w.heap.size + 1) 28 #[.slice A 0 c, .bool s] (0, 0) _ rfl hg Tryd.underlying28 rfl (by kernel_rfl)) rfl ?_
  exact ⟨A, c, rfl, Nat.zero_le _, Kd.C_below HC.out hb, hb⟩
set_option maxRecDepth 100000 in
set_option maxHeartbeats 4000000 in
theorem refParent_pos (A : Option Addr) (c m : Nat) (l : List ByteArray) (x : ByteArray) (s : Bool) (w : World) (hl : l.length = m + 1) (hx : l[m]? = some x) (hc : l.length ≤ c) (hC : Kd.C Kd.string w A l.length l) :
    Calls Tryd.prog 21 #[.agg #[.slice A l.length c, .bool s]] w (RefPost (l.take m) false x w) := by
  obtain ⟨q, o, hq⟩ := Q.texts_at hC
  obtain ⟨rfl, hcell⟩ := hq m x hx
  have hbig := hC.2.1
  have hql := World.block_lt_of_cell? w _ hcell
  obtain ⟨i0, hi0, _, hsz, _⟩ := info_parts Q.info9
  have e : wrap64 ((l.length : Int) - 1) = (m : Int) := by unfold wrap64; omega
  have c4 : 0 ≤ wrap64 ((l.length : Int) - 1) := by omega
  have c5 : wrap64 ((l.length : Int) - 1) ≤ (l.length : Int) := by omega
  have c6 : wrap64 ((l.length : Int) - 1) < (l.length : Int) := by omega
  have c2 : ¬ (l.length : Int) = 0 := by omega
  have et : (wrap64 ((l.length : Int) - 1)).toNat = m := by omega
  obtain ⟨hcut, hA, hCc⟩ := print_take_of (P := Tryd.prog) Value.string (⟨#[]⟩ : ByteArray) 22 9 .i64 Tryd.underlying22 hi0 hsz (some ⟨q, o, none⟩) c l (wrap64 ((l.length : Int) - 1)) c4 c5 hc
  have hR := Kd.C_of_reads (h1 := fun _ => rfl) (hA _ (Kd.reads_of_C hC))
  rw [← et] at hcell ⊢
  have HR := Aside0.mk hR
  have HC := Aside0.mk hCc
  have HX := Aside0.mk hcell
  have HQ := Aside0.mk hql
  clear hR hCc hA hC hq hx hcell hc hi0 hsz hql hl hbig e et
  have c2b0 : ((l.length : Int) == 0) = false := beq_eq_false_iff_ne.2 c2
  have c4b0 := eq_true c4
  have c4b1 := decide_eq_true c4
  have c5b0 := eq_true c5
  have c5b1 := decide_eq_true c5
  have c6b0 := eq_true c6
  have c6b1 := decide_eq_true c6
  clear c4 c5 c6
  go_enter Tryd.func21, Tryd.ntmps21
  go_wp2
  obtain ⟨r, hr⟩ : ∃ r, w.heap.size = r := ⟨_, rfl⟩
  have h1 := blk_alloc (blk_new w (.cells #[.slice (some ⟨q, o, none⟩) l.length c, .bool s] 28)) (.cells #[.slice none 0 0, .bool false] 28)
  have h2 := blk_new (w.alloc (.cells #[.slice (some ⟨q, o, none⟩) l.length c, .bool s] 28)) (.cells #[.slice none 0 0, .bool false] 28)
  have hb4 : Below w.heap.size w ((w.alloc (.cells #[.slice (some ⟨q, o, none⟩) l.length c, .bool s] 28)).alloc (.cells #[.slice none 0 0, .bool false] 28)) := ((Below.refl _ w).alloc (Nat.le_refl _) _).alloc (by rw [World.size_alloc]; omega) _
  have hx4 := (hb4.cell (p := ⟨q, o + (wrap64 ((l.length : Int) - 1)).toNat, none⟩) HQ.out).trans HX.out
  rw [World.size_alloc] at h2
  obtain ⟨W4, hW4⟩ : ∃ W4, W4 = (w.alloc (.cells #[.slice (some ⟨q, o, none⟩) l.length c, .bool s] 28)).alloc (.cells #[.slice none 0 0, .bool false] 28) := ⟨_, rfl⟩
  rw [← hW4] at h1 h2 hx4 hb4 ⊢
  clear hW4
  have hne1 : ¬ q = w.heap.size := by have : q < w.heap.size := HQ.out; omega
  have hne2 : ¬ q = w.heap.size + 1 := by have : q < w.heap.size := HQ.out; omega
  rw [hr] at h1 h2 hne1 hne2 ⊢
  obtain ⟨c0, c1, f0, f1⟩ := Cut.cell2 h1
  obtain ⟨d0, d1, g0, g1⟩ := Cut.cell2 h2
  have H2 := Aside0.mk h2
  have HB4 := Aside0.mk hb4
  have HR0 := Aside0.mk hr
  clear h1 h2 hb4 hr
  have hqr : q < r + 1 := by have : q < w.heap.size := HQ.out; have := HR0.out; omega
  have hwr : IntKind.i64.wrap ((l.length : Int) - 1) = wrap64 ((l.length : Int) - 1) := Go.Proofs.YthcooheghekplaaDoorW.PrintLast.i64_w _
  go_region_held3 (fun W => W.cell? ⟨r, 0, none⟩ = some (.slice (some ⟨q, o, none⟩) l.length c) ∧ W.cell? ⟨q, o + (wrap64 ((l.length : Int) - 1)).toNat, none⟩ = some (.string x)) (first | exact ⟨keep2 c0 (Nat.lt_succ_self _), keep2 hx4 hqr⟩ | go_keep | exact ⟨c0, hx4⟩) (fail)
  all_goals (try go_wp2)
  have hr := HR0.out
  have hk : (wrap64 ((l.length : Int) - 1)).toNat ≤ l.length := by have := of_decide_eq_true c5b1; omega
  have hlk : (l.take (wrap64 ((l.length : Int) - 1)).toNat).length = (wrap64 ((l.length : Int) - 1)).toNat := by rw [List.length_take]; omega
  have hb5 : Below w.heap.size w ((W4.setCell ⟨r + 1, 0, none⟩ (.slice (some ⟨q, o, none⟩) (wrap64 ((l.length : Int) - 1)).toNat c)).setCell ⟨r + 1, 1, none⟩ (.bool false)).drew :=
    below_drew ((HB4.out.setCell (p := ⟨r + 1, 0, none⟩) (by show w.heap.size ≤ r + 1; omega) _).setCell (p := ⟨r + 1, 1, none⟩) (by show w.heap.size ≤ r + 1; omega) _)
  refine bodyPost_ret (results_ct rfl _ _ (r + 1) 28 #[.slice (some ⟨q, o, none⟩) (wrap64 ((l.length : Int) - 1)).toNat c, .bool false] (0, 0) _ rfl (blk_put (blk_put H2.out 0 _ rfl) 1 _ rfl) Tryd.underlying28 rfl (by kernel_rfl)) rfl ?_
  exact ⟨some ⟨q, o, none⟩, c, by rw [hlk]; rfl, HC.out, Kd.C_below HR.out hb5, hb5⟩
end Go.Proofs.YthcooheghekplaaDoor.Z
