/- Functions of this seat as plain Lean functions, each with the contract that the machine keeps. No condition. Laid by wip/qprint.py. -/
import Derived.Test.YthcooheghekplaaDoorQ0
import Derived.Test.YthcooheghekplaaDoorQ4
import Derived.Test.YthcooheghekplaaDoorQ5
import Derived.Test.YthcooheghekplaaDoorH2
import Derived.Test.YthcooheghekplaaDoorH6
namespace Go.Proofs.YthcooheghekplaaDoor.Q
open Go.RowKit Go.Proofs.YthcooheghekplaaDoorW.PrintWords Go.Proofs.YthcooheghekplaaDoorW.PrintLast Go.Proofs.YthcooheghekplaaDoorW.PrintMore
attribute [local go_sem] max2_int min2_int max_two min_two max_three min_three max_four min_four   -- for this text's walks alone
set_option linter.unusedVariables false
set_option linter.unusedSimpArgs false

/-! ### pumicelaw02_NamesClean: function 5 -/
mutual
def pumicelaw02_NamesClean.j0 : Nat → Bool → List ByteArray → Bool → Option (Bool)
  | 0, _, _, _ => none
  | k + 1, x56, x239000, x239001 => if x56 = true then (none) else (pumicelaw02_NamesClean.l0 k 0 x239000 x239001)
def pumicelaw02_NamesClean.l0 : Nat → Int → List ByteArray → Bool → Option (Bool)
  | 0, _, _, _ => none
  | k + 1, x9, x239000, x239001 => if x9 < (x239000.length : Int) then (if 0 ≤ x9 then (if (rdOf ByteArray.empty x239000 x9).toList = ([46] : List UInt8) then (none) else (if (rdOf ByteArray.empty x239000 x9).toList = ([46, 46] : List UInt8) then (none) else (pumicelaw02_NamesClean.l0 k (wrap64 (x9 + 1)) x239000 x239001))) else (none)) else ((pumicelaw02_alive.f k).bind fun t244 => (some t244))
end
def pumicelaw02_NamesClean.f (k : Nat) (a0 : ByteArray) : Option (Bool) := (names_Clean.f k a0).bind fun bt230 => (if bt230.2 = 0 then ((names_Split.f bt230.1).bind fun bt233 => (if (bt230.1.size : Int) > 255 then ((pumicelaw02_alive.f k).bind fun t239 => (some t239)) else ((names_Clean.f k bt230.1).bind fun bt240 => (if bt233.2.2 = 0 then (if bt240.2 = 0 then (if bt240.1.toList = bt230.1.toList then (if (bt230.1.size : Int) = 0 then (pumicelaw02_NamesClean.j0 k true bt233.1 bt233.2.1) else (if 0 < (bt230.1.size : Int) then (pumicelaw02_NamesClean.j0 k ((bt bt230.1 0) != 47) bt233.1 bt233.2.1) else (none))) else (pumicelaw02_NamesClean.j0 k true bt233.1 bt233.2.1)) else (pumicelaw02_NamesClean.j0 k true bt233.1 bt233.2.1)) else (pumicelaw02_NamesClean.j0 k true bt233.1 bt233.2.1))))) else (if bt230.1.toList = ([] : List UInt8) then ((pumicelaw02_alive.f k).bind fun t232 => (some t232)) else (none)))
theorem pumicelaw02_NamesClean.mono_l : ∀ k, (∀ y0 y1 y2, LeO (pumicelaw02_NamesClean.j0 k y0 y1 y2) (pumicelaw02_NamesClean.j0 (k + 1) y0 y1 y2)) ∧ (∀ y0 y1 y2, LeO (pumicelaw02_NamesClean.l0 k y0 y1 y2) (pumicelaw02_NamesClean.l0 (k + 1) y0 y1 y2))
  | 0 => ⟨fun _ _ _ r h => by simp [pumicelaw02_NamesClean.j0] at h, fun _ _ _ r h => by simp [pumicelaw02_NamesClean.l0] at h⟩
  | k + 1 => by
    obtain ⟨ih0, ih1⟩ := pumicelaw02_NamesClean.mono_l k
    refine ⟨?_, ?_⟩
    · intro y0 y1 y2
      unfold pumicelaw02_NamesClean.j0
      repeat' first
      | (with_reducible exact ih0 _ _ _)
      | (with_reducible exact ih1 _ _ _)
      | (with_reducible exact names_Clean.mono _ _)
      | (with_reducible exact pumicelaw02_alive.mono _)
      | (with_reducible exact LeO.refl _)
      | (with_reducible exact LeO.none _)
      | (with_reducible refine LeO.ite ?_ ?_)
      | (with_reducible refine LeO.bind ?_ (fun _ => ?_))
      | exact ih0 _ _ _
      | exact ih1 _ _ _
      | exact names_Clean.mono _ _
      | exact pumicelaw02_alive.mono _
      | exact LeO.none _
      | refine LeO.ite ?_ ?_
      | refine LeO.bind ?_ (fun _ => ?_)
    · intro y0 y1 y2
      unfold pumicelaw02_NamesClean.l0
      repeat' first
      | (with_reducible exact ih0 _ _ _)
      | (with_reducible exact ih1 _ _ _)
      | (with_reducible exact names_Clean.mono _ _)
      | (with_reducible exact pumicelaw02_alive.mono _)
      | (with_reducible exact LeO.refl _)
      | (with_reducible exact LeO.none _)
      | (with_reducible refine LeO.ite ?_ ?_)
      | (with_reducible refine LeO.bind ?_ (fun _ => ?_))
      | exact ih0 _ _ _
      | exact ih1 _ _ _
      | exact names_Clean.mono _ _
      | exact pumicelaw02_alive.mono _
      | exact LeO.none _
      | refine LeO.ite ?_ ?_
      | refine LeO.bind ?_ (fun _ => ?_)
theorem pumicelaw02_NamesClean.mono : ∀ a0 k, LeO (pumicelaw02_NamesClean.f k a0) (pumicelaw02_NamesClean.f (k + 1) a0) := by
  intro a0 k
  obtain ⟨ih0, ih1⟩ := pumicelaw02_NamesClean.mono_l k
  unfold pumicelaw02_NamesClean.f
  repeat' first
      | (with_reducible exact ih0 _ _ _)
      | (with_reducible exact ih1 _ _ _)
      | (with_reducible exact names_Clean.mono _ _)
      | (with_reducible exact pumicelaw02_alive.mono _)
      | (with_reducible exact LeO.refl _)
      | (with_reducible exact LeO.none _)
      | (with_reducible refine LeO.ite ?_ ?_)
      | (with_reducible refine LeO.bind ?_ (fun _ => ?_))
      | exact ih0 _ _ _
      | exact ih1 _ _ _
      | exact names_Clean.mono _ _
      | exact pumicelaw02_alive.mono _
      | exact LeO.none _
      | refine LeO.ite ?_ ?_
      | refine LeO.bind ?_ (fun _ => ?_)
set_option maxHeartbeats 8000000 in
set_option maxRecDepth 100000 in
theorem pumicelaw02_NamesClean.calls (k : Nat) (a0 : ByteArray) (r : Bool) (w : World) (h : pumicelaw02_NamesClean.f k a0 = some r) :
    Calls Tryd.prog 5 #[.string a0] w fun e w' => e = .returned (.bool r) ∧ Below w.heap.size w w' := by
  have hu24 := Tryd.underlying24
  have HB := Aside0.mk (Below.refl w.heap.size w)
  have H : ((names_Clean.f k a0).bind fun bt230 => (if bt230.2 = 0 then ((names_Split.f bt230.1).bind fun bt233 => (if (bt230.1.size : Int) > 255 then ((pumicelaw02_alive.f k).bind fun t239 => (some t239)) else ((names_Clean.f k bt230.1).bind fun bt240 => (if bt233.2.2 = 0 then (if bt240.2 = 0 then (if bt240.1.toList = bt230.1.toList then (if (bt230.1.size : Int) = 0 then (pumicelaw02_NamesClean.j0 k true bt233.1 bt233.2.1) else (if 0 < (bt230.1.size : Int) then (pumicelaw02_NamesClean.j0 k ((bt bt230.1 0) != 47) bt233.1 bt233.2.1) else (none))) else (pumicelaw02_NamesClean.j0 k true bt233.1 bt233.2.1)) else (pumicelaw02_NamesClean.j0 k true bt233.1 bt233.2.1)) else (pumicelaw02_NamesClean.j0 k true bt233.1 bt233.2.1))))) else (if bt230.1.toList = ([] : List UInt8) then ((pumicelaw02_alive.f k).bind fun t232 => (some t232)) else (none)))) = some r := h
  clear h
  replace H := Option.bind_eq_some_iff.mp H
  obtain ⟨⟨t230, t231⟩, A20, H⟩ := H
  replace H : (if t231 = 0 then ((names_Split.f t230).bind fun bt233 => (if (t230.size : Int) > 255 then ((pumicelaw02_alive.f k).bind fun t239 => (some t239)) else ((names_Clean.f k t230).bind fun bt240 => (if bt233.2.2 = 0 then (if bt240.2 = 0 then (if bt240.1.toList = t230.toList then (if (t230.size : Int) = 0 then (pumicelaw02_NamesClean.j0 k true bt233.1 bt233.2.1) else (if 0 < (t230.size : Int) then (pumicelaw02_NamesClean.j0 k ((bt t230 0) != 47) bt233.1 bt233.2.1) else (none))) else (pumicelaw02_NamesClean.j0 k true bt233.1 bt233.2.1)) else (pumicelaw02_NamesClean.j0 k true bt233.1 bt233.2.1)) else (pumicelaw02_NamesClean.j0 k true bt233.1 bt233.2.1))))) else (if t230.toList = ([] : List UInt8) then ((pumicelaw02_alive.f k).bind fun t232 => (some t232)) else (none))) = some r := H
  have A2 := Aside0.mk A20
  clear A20
  by_cases c3 : t231 = 0
  · rw [if_pos c3] at H
    have c3b0 : (t231 == 0) = true := beq_iff_eq.mpr c3
    have c3b1 : (t231 != 0) = false := bne_eq_false_iff_eq.mpr c3
    clear c3
    replace H := Option.bind_eq_some_iff.mp H
    obtain ⟨⟨t233, t236, t237⟩, A40, H⟩ := H
    replace H : (if (t230.size : Int) > 255 then ((pumicelaw02_alive.f k).bind fun t239 => (some t239)) else ((names_Clean.f k t230).bind fun bt240 => (if t237 = 0 then (if bt240.2 = 0 then (if bt240.1.toList = t230.toList then (if (t230.size : Int) = 0 then (pumicelaw02_NamesClean.j0 k true t233 t236) else (if 0 < (t230.size : Int) then (pumicelaw02_NamesClean.j0 k ((bt t230 0) != 47) t233 t236) else (none))) else (pumicelaw02_NamesClean.j0 k true t233 t236)) else (pumicelaw02_NamesClean.j0 k true t233 t236)) else (pumicelaw02_NamesClean.j0 k true t233 t236)))) = some r := H
    have A4 := Aside0.mk A40
    clear A40
    by_cases c5 : (t230.size : Int) > 255
    · rw [if_pos c5] at H
      have c5b0 : decide (255 < (t230.size : Int)) = true := decide_eq_true c5
      have c5b1 : decide (255 < t230.size) = true := decide_eq_true (by omega)
      clear c5
      replace H := Option.bind_eq_some_iff.mp H
      obtain ⟨t239, A60, H⟩ := H
      replace H : (some t239) = some r := H
      have A6 := Aside0.mk A60
      clear A60
      obtain rfl := Option.some.inj H
      go_enter Tryd.func5, Tryd.ntmps5
      go_wp2_with (first | ((with_reducible refine gate_callee (f := 18) rfl ?_); refine goesL_ (some 12) rfl rfl Tryd.func18 (by kernel_rfl) rfl #[.string a0] rfl (by (try simp only [List.map_toArray, List.map_cons, List.map_nil]); first | done | rfl | (simp only [List.length_drop, List.length_take]; rfl)) ?_; (with_reducible refine (names_Clean.calls k a0 t230 t231 _ A2.out).mono ?_); rintro e w7 ⟨rfl, hb⟩; refine ⟨_, rfl, ?_⟩; have n0_ := Aside0.mk (below_step (by repeat (first | (with_reducible first | exact HB.out | apply below_alloc | apply pw_below_drewN | apply below_drew1) | exact HB.out)) hb); clear HB; have HB := n0_; clear n0_; (try clear hb); (try clear hb2); (try clear hk); (try clear hi)) | ((with_reducible refine gate_callee (f := 10) rfl ?_); refine goesL_ (some 24) rfl rfl Tryd.func10 (by kernel_rfl) rfl #[.string t230] rfl (by (try simp only [List.map_toArray, List.map_cons, List.map_nil]); first | done | rfl | (simp only [List.length_drop, List.length_take]; rfl)) ?_; (with_reducible refine (names_Split.calls t230 t233 t236 t237 _ A4.out).mono ?_); rintro e w8 ⟨v234, rfl, ho0, hb⟩; refine ⟨_, rfl, ?_⟩; have n0_ := Aside0.mk (Kd.R_lower ho0 (below_size (by repeat (first | (with_reducible first | exact HB.out | apply below_alloc | apply pw_below_drewN | apply below_drew1) | exact HB.out)))); have n1_ := Aside0.mk (below_step (by repeat (first | (with_reducible first | exact HB.out | apply below_alloc | apply pw_below_drewN | apply below_drew1) | exact HB.out)) hb); clear HB; have HO235 := n0_; have HB := n1_; clear n0_ n1_; (try clear hb); (try clear hb2); (try clear hk); (try clear hi); (try clear ho0)) | ((with_reducible refine gate_dst (N := 5) rfl ?_); (try (refine gate_guard (by rfl) ?_; dsimp only)); refine box_event ?hg (N := 5) ?hd (cs := #[.slice none 0 0, .bool false]) (t := 24) ?hr ?_; (case hd => rfl); (case hg => rfl); (case hr => first | (go_simp; done) | (go_simp; rfl)); intro gb238 hg w9 hbox hb; have n0_ := Aside0.mk (Kd.R_below (by (with_reducible repeat (first | apply Kd.R_alloc | apply Kd.R_drewN | apply Kd.R_drew)); exact HO235.out) hb); have n1_ := Aside0.mk (below_step (by repeat (first | (with_reducible first | exact HB.out | apply below_alloc | apply pw_below_drewN | apply below_drew1) | exact HB.out)) hb); have n2_ := Aside0.mk (hbox); have n3_ := Aside0.mk ((by rw [hg]; exact (below_size (by repeat (first | (with_reducible first | exact HB.out | apply below_alloc | apply pw_below_drewN | apply below_drew1) | exact HB.out))) : w.heap.size ≤ gb238)); have n4_ := Aside0.mk ((by rw [hg]; exact (below_size (by repeat (first | (with_reducible first | exact HB.out | apply below_alloc | apply pw_below_drewN | apply below_drew1) | exact HB.out))) : w.heap.size ≤ gb238)); clear HO235; clear HB; have HO235 := n0_; have HB := n1_; have BK238 := n2_; have GW238 := n3_; have GE238 := n4_; clear n0_ n1_ n2_ n3_ n4_; clear hb hbox hg; obtain ⟨Ao10, co10, eo10⟩ := Kd.R_slice HO235.out; subst eo10; have hcz11_0 : w9.cell? ⟨gb238, 0, none⟩ = some (.slice none 0 0) := (blk_cell BK238.out 0).trans rfl; have hcz11_1 : w9.cell? ⟨gb238, 1, none⟩ = some (.bool false) := (blk_cell BK238.out 1).trans rfl; have hfz11_0 := blk_frozen BK238.out 0; have hfz11_1 := blk_frozen BK238.out 1) | ((with_reducible refine gate_callee (f := 15) rfl ?_); refine goesL_ (some 30) rfl rfl Tryd.func15 (by kernel_rfl) rfl #[] rfl (by (try simp only [List.map_toArray, List.map_cons, List.map_nil]); first | done | rfl | (simp only [List.length_drop, List.length_take]; rfl)) ?_; (with_reducible refine (pumicelaw02_alive.calls k  t239 _ A6.out).mono ?_); rintro e w12 ⟨rfl, hb⟩; refine ⟨_, rfl, ?_⟩; have n0_ := Aside0.mk (Kd.R_below (by (with_reducible repeat (first | apply Kd.R_alloc | apply Kd.R_drewN | apply Kd.R_drew)); exact (Kd.R_mono (Kd.R_far (p := ⟨gb238, 1, none⟩) (Kd.R_far (p := ⟨gb238, 0, none⟩) (Kd.R_types HO235.out BK238.out (by decide)) (fun _ hk => hk.2) (.slice Ao10 t233.length co10)) (fun _ hk => hk.2) (.bool t236)) (fun _ h_ => h_.1))) hb); have n1_ := Aside0.mk (blk_below (g := gb238) (o := .cells #[.slice Ao10 t233.length co10, .bool t236] 24 (0, 0)) (by (with_reducible repeat (first | refine blk_drewN ?_ _ | refine blk_drew ?_ | refine blk_alloc ?_ _)); refine blk_put (cs := #[.slice Ao10 t233.length co10, .bool false]) ?_ 1 _ rfl; (with_reducible repeat (first | refine blk_drewN ?_ _ | refine blk_drew ?_ | refine blk_alloc ?_ _)); refine blk_put (cs := #[.slice none 0 0, .bool false]) ?_ 0 _ rfl; (with_reducible repeat (first | refine blk_drewN ?_ _ | refine blk_drew ?_ | refine blk_alloc ?_ _)); exact BK238.out) hb); have n2_ := Aside0.mk (below_step (by repeat (first | (with_reducible first | exact HB.out | apply below_alloc | apply pw_below_drewN | apply below_drew1 | refine below_set ?_ GE238.out) | exact HB.out)) hb); clear HO235; clear BK238; clear HB; have HO235 := n0_; have BK238 := n1_; have HB := n2_; clear n0_ n1_ n2_; (try clear hb); (try clear hb2); (try clear hk); (try clear hi)))
      go_ret
      exact ⟨by first | rfl | exact isEmpty_bne_ _ | (simp [errW_none, errW_some] <;> rfl) | (simp [*, errW_none, errW_some] <;> rfl), by repeat (first | (with_reducible first | exact HB.out | apply below_alloc | apply pw_below_drewN | apply below_drew1 | refine below_set ?_ GE238.out) | exact HB.out)⟩
    · rw [if_neg c5] at H
      have c5b0 : decide (255 < (t230.size : Int)) = false := decide_eq_false c5
      have c5b1 : decide (255 < t230.size) = false := decide_eq_false (by omega)
      clear c5
      replace H := Option.bind_eq_some_iff.mp H
      obtain ⟨⟨t240, t241⟩, A130, H⟩ := H
      replace H : (if t237 = 0 then (if t241 = 0 then (if t240.toList = t230.toList then (if (t230.size : Int) = 0 then (pumicelaw02_NamesClean.j0 k true t233 t236) else (if 0 < (t230.size : Int) then (pumicelaw02_NamesClean.j0 k ((bt t230 0) != 47) t233 t236) else (none))) else (pumicelaw02_NamesClean.j0 k true t233 t236)) else (pumicelaw02_NamesClean.j0 k true t233 t236)) else (pumicelaw02_NamesClean.j0 k true t233 t236)) = some r := H
      have A13 := Aside0.mk A130
      clear A130
      have HC14 := Aside0.mk H
      clear H
      go_enter Tryd.func5, Tryd.ntmps5
      go_upto_region 8 with (first | ((with_reducible refine gate_callee (f := 18) rfl ?_); refine goesL_ (some 12) rfl rfl Tryd.func18 (by kernel_rfl) rfl #[.string a0] rfl (by (try simp only [List.map_toArray, List.map_cons, List.map_nil]); first | done | rfl | (simp only [List.length_drop, List.length_take]; rfl)) ?_; (with_reducible refine (names_Clean.calls k a0 t230 t231 _ A2.out).mono ?_); rintro e w15 ⟨rfl, hb⟩; refine ⟨_, rfl, ?_⟩; have n0_ := Aside0.mk (below_step (by repeat (first | (with_reducible first | exact HB.out | apply below_alloc | apply pw_below_drewN | apply below_drew1) | exact HB.out)) hb); clear HB; have HB := n0_; clear n0_; (try clear hb); (try clear hb2); (try clear hk); (try clear hi)) | ((with_reducible refine gate_callee (f := 10) rfl ?_); refine goesL_ (some 24) rfl rfl Tryd.func10 (by kernel_rfl) rfl #[.string t230] rfl (by (try simp only [List.map_toArray, List.map_cons, List.map_nil]); first | done | rfl | (simp only [List.length_drop, List.length_take]; rfl)) ?_; (with_reducible refine (names_Split.calls t230 t233 t236 t237 _ A4.out).mono ?_); rintro e w16 ⟨v234, rfl, ho0, hb⟩; refine ⟨_, rfl, ?_⟩; have n0_ := Aside0.mk (Kd.R_lower ho0 (below_size (by repeat (first | (with_reducible first | exact HB.out | apply below_alloc | apply pw_below_drewN | apply below_drew1) | exact HB.out)))); have n1_ := Aside0.mk (below_step (by repeat (first | (with_reducible first | exact HB.out | apply below_alloc | apply pw_below_drewN | apply below_drew1) | exact HB.out)) hb); clear HB; have HO235 := n0_; have HB := n1_; clear n0_ n1_; (try clear hb); (try clear hb2); (try clear hk); (try clear hi); (try clear ho0)) | ((with_reducible refine gate_dst (N := 5) rfl ?_); (try (refine gate_guard (by rfl) ?_; dsimp only)); refine box_event ?hg (N := 5) ?hd (cs := #[.slice none 0 0, .bool false]) (t := 24) ?hr ?_; (case hd => rfl); (case hg => rfl); (case hr => first | (go_simp; done) | (go_simp; rfl)); intro gb238 hg w17 hbox hb; have n0_ := Aside0.mk (Kd.R_below (by (with_reducible repeat (first | apply Kd.R_alloc | apply Kd.R_drewN | apply Kd.R_drew)); exact HO235.out) hb); have n1_ := Aside0.mk (below_step (by repeat (first | (with_reducible first | exact HB.out | apply below_alloc | apply pw_below_drewN | apply below_drew1) | exact HB.out)) hb); have n2_ := Aside0.mk (hbox); have n3_ := Aside0.mk ((by rw [hg]; exact (below_size (by repeat (first | (with_reducible first | exact HB.out | apply below_alloc | apply pw_below_drewN | apply below_drew1) | exact HB.out))) : w.heap.size ≤ gb238)); have n4_ := Aside0.mk ((by rw [hg]; exact (below_size (by repeat (first | (with_reducible first | exact HB.out | apply below_alloc | apply pw_below_drewN | apply below_drew1) | exact HB.out))) : w.heap.size ≤ gb238)); clear HO235; clear HB; have HO235 := n0_; have HB := n1_; have BK238 := n2_; have GW238 := n3_; have GE238 := n4_; clear n0_ n1_ n2_ n3_ n4_; clear hb hbox hg; obtain ⟨Ao18, co18, eo18⟩ := Kd.R_slice HO235.out; subst eo18; have hcz19_0 : w17.cell? ⟨gb238, 0, none⟩ = some (.slice none 0 0) := (blk_cell BK238.out 0).trans rfl; have hcz19_1 : w17.cell? ⟨gb238, 1, none⟩ = some (.bool false) := (blk_cell BK238.out 1).trans rfl; have hfz19_0 := blk_frozen BK238.out 0; have hfz19_1 := blk_frozen BK238.out 1) | ((with_reducible refine gate_callee (f := 18) rfl ?_); refine goesL_ (some 33) rfl rfl Tryd.func18 (by kernel_rfl) rfl #[.string t230] rfl (by (try simp only [List.map_toArray, List.map_cons, List.map_nil]); first | done | rfl | (simp only [List.length_drop, List.length_take]; rfl)) ?_; (with_reducible refine (names_Clean.calls k t230 t240 t241 _ A13.out).mono ?_); rintro e w20 ⟨rfl, hb⟩; refine ⟨_, rfl, ?_⟩; have n0_ := Aside0.mk (Kd.R_below (by (with_reducible repeat (first | apply Kd.R_alloc | apply Kd.R_drewN | apply Kd.R_drew)); exact (Kd.R_mono (Kd.R_far (p := ⟨gb238, 1, none⟩) (Kd.R_far (p := ⟨gb238, 0, none⟩) (Kd.R_types HO235.out BK238.out (by decide)) (fun _ hk => hk.2) (.slice Ao18 t233.length co18)) (fun _ hk => hk.2) (.bool t236)) (fun _ h_ => h_.1))) hb); have n1_ := Aside0.mk (blk_below (g := gb238) (o := .cells #[.slice Ao18 t233.length co18, .bool t236] 24 (0, 0)) (by (with_reducible repeat (first | refine blk_drewN ?_ _ | refine blk_drew ?_ | refine blk_alloc ?_ _)); refine blk_put (cs := #[.slice Ao18 t233.length co18, .bool false]) ?_ 1 _ rfl; (with_reducible repeat (first | refine blk_drewN ?_ _ | refine blk_drew ?_ | refine blk_alloc ?_ _)); refine blk_put (cs := #[.slice none 0 0, .bool false]) ?_ 0 _ rfl; (with_reducible repeat (first | refine blk_drewN ?_ _ | refine blk_drew ?_ | refine blk_alloc ?_ _)); exact BK238.out) hb); have n2_ := Aside0.mk (below_step (by repeat (first | (with_reducible first | exact HB.out | apply below_alloc | apply pw_below_drewN | apply below_drew1 | refine below_set ?_ GE238.out) | exact HB.out)) hb); clear HO235; clear BK238; clear HB; have HO235 := n0_; have BK238 := n1_; have HB := n2_; clear n0_ n1_ n2_; (try clear hb); (try clear hb2); (try clear hk); (try clear hi)))
      (try simp only [Act.put, List.setIfInBounds_toArray, List.set_cons_zero, List.set_cons_succ])
      go_cut [56] (fun v56 wc => ∃ (kq : Nat) (x56_13 : Bool), v56 = .bool x56_13 ∧ Aside0 (pumicelaw02_NamesClean.j0 kq x56_13 t233 t236 = some r) ∧ Aside0 (kq ≤ k) ∧ Aside0 (Kd.R Kd.string 9 wc w.heap.size (fun _ => True) (.slice Ao18 t233.length co18) t233) ∧ Aside0 (wc.heap[gb238]? = some (.cells #[(.slice Ao18 t233.length co18), .bool t236] 24 (0, 0))) ∧ Aside0 (Below w.heap.size w wc))
      case first =>
        have H := HC14.out
        clear HC14
        by_cases c21 : t237 = 0
        · rw [if_pos c21] at H
          have c21b0 : (t237 == 0) = true := beq_iff_eq.mpr c21
          have c21b1 : (t237 != 0) = false := bne_eq_false_iff_eq.mpr c21
          clear c21
          (first | rw [c21b0] | (simp only [i64_w, i32_w]; rw [c21b0]) | skip)
          by_cases c22 : t241 = 0
          · rw [if_pos c22] at H
            have c22b0 : (t241 == 0) = true := beq_iff_eq.mpr c22
            have c22b1 : (t241 != 0) = false := bne_eq_false_iff_eq.mpr c22
            clear c22
            by_cases c23 : t240.toList = t230.toList
            · rw [if_pos c23] at H
              have c23b0 : (t240.toList == t230.toList) = true := beq_iff_eq.mpr c23
              have c23b1 : (t240.toList != t230.toList) = false := bne_eq_false_iff_eq.mpr c23
              clear c23
              by_cases c24 : (t230.size : Int) = 0
              · rw [if_pos c24] at H
                have c24b0 : ((t230.size : Int) == 0) = true := beq_iff_eq.mpr c24
                have c24b1 : ((t230.size : Int) != 0) = false := bne_eq_false_iff_eq.mpr c24
                clear c24
                have H' := Aside0.mk H
                clear H
                go_wp2
                go_meet
                case rel => exact ⟨_, (true), (by first | rfl | (simp; done) | (simp [*]; done) | (simp [wrap64]; done)), H', ⟨by first | omega | exact Nat.le_refl _⟩, ⟨by (with_reducible repeat (first | apply Kd.R_alloc | apply Kd.R_drewN | apply Kd.R_drew)); first | exact HO235.out | exact Kd.R_mono HO235.out (fun _ hk e => hk (e.trans (ownBlock_len _ _ _ _ _))) | exact Kd.R_mono HO235.out (fun _ hk => ⟨fun e => hk.1 (e.trans (ownBlock_len _ _ _ _ _)), fun e => hk.2 (e.trans (ownBlock_len _ _ _ _ _))⟩)⟩, ⟨by (with_reducible repeat (first | refine blk_drewN ?_ _ | refine blk_drew ?_ | refine blk_alloc ?_ _)); exact BK238.out⟩, ⟨by repeat (first | (with_reducible first | exact HB.out | apply below_alloc | apply pw_below_drewN | apply below_drew1 | refine below_set ?_ GE238.out) | exact HB.out)⟩⟩
              · rw [if_neg c24] at H
                have c24b0 : ((t230.size : Int) == 0) = false := beq_eq_false_iff_ne.mpr c24
                have c24b1 : ((t230.size : Int) != 0) = true := bne_iff_ne.mpr c24
                by_cases c25 : 0 < (t230.size : Int)
                · rw [if_pos c25] at H
                  have c25b0 : decide (0 < (t230.size : Int)) = true := decide_eq_true c25
                  have c25b1 : decide (0 < t230.size) = true := decide_eq_true (by omega)
                  clear c25
                  have H' := Aside0.mk H
                  clear H
                  have p26 : 0 ≤ (0 : Int) := (by omega)
                  have q26 : 0 < t230.size := (by have : (0 : Int) < (t230.size : Int) := of_decide_eq_true (by first | (with_reducible assumption) | assumption); omega)
                  have hx26 : ∀ h : 0 < t230.size, ((t230[0]'h).toNat : Int) = bt t230 0 := bt_at t230 0
                  clear p26
                  have qi26 : (0 < (t230.size : Int)) = True := eq_true (of_decide_eq_true (by first | (with_reducible assumption) | assumption))
                  replace q26 := eq_true q26
                  go_wp2
                  go_meet
                  case rel => exact ⟨_, (((bt t230 0) != 47)), (by first | rfl | (simp; done) | (simp [*]; done) | (simp [wrap64]; done)), H', ⟨by first | omega | exact Nat.le_refl _⟩, ⟨by (with_reducible repeat (first | apply Kd.R_alloc | apply Kd.R_drewN | apply Kd.R_drew)); first | exact HO235.out | exact Kd.R_mono HO235.out (fun _ hk e => hk (e.trans (ownBlock_len _ _ _ _ _))) | exact Kd.R_mono HO235.out (fun _ hk => ⟨fun e => hk.1 (e.trans (ownBlock_len _ _ _ _ _)), fun e => hk.2 (e.trans (ownBlock_len _ _ _ _ _))⟩)⟩, ⟨by (with_reducible repeat (first | refine blk_drewN ?_ _ | refine blk_drew ?_ | refine blk_alloc ?_ _)); exact BK238.out⟩, ⟨by repeat (first | (with_reducible first | exact HB.out | apply below_alloc | apply pw_below_drewN | apply below_drew1 | refine below_set ?_ GE238.out) | exact HB.out)⟩⟩
                · rw [if_neg c25] at H
                  exact absurd H (by simp)
            · rw [if_neg c23] at H
              have c23b0 : (t240.toList == t230.toList) = false := beq_eq_false_iff_ne.mpr c23
              have c23b1 : (t240.toList != t230.toList) = true := bne_iff_ne.mpr c23
              have H' := Aside0.mk H
              clear H
              go_wp2
              go_meet
              case rel => exact ⟨_, (true), (by first | rfl | (simp; done) | (simp [*]; done) | (simp [wrap64]; done)), H', ⟨by first | omega | exact Nat.le_refl _⟩, ⟨by (with_reducible repeat (first | apply Kd.R_alloc | apply Kd.R_drewN | apply Kd.R_drew)); first | exact HO235.out | exact Kd.R_mono HO235.out (fun _ hk e => hk (e.trans (ownBlock_len _ _ _ _ _))) | exact Kd.R_mono HO235.out (fun _ hk => ⟨fun e => hk.1 (e.trans (ownBlock_len _ _ _ _ _)), fun e => hk.2 (e.trans (ownBlock_len _ _ _ _ _))⟩)⟩, ⟨by (with_reducible repeat (first | refine blk_drewN ?_ _ | refine blk_drew ?_ | refine blk_alloc ?_ _)); exact BK238.out⟩, ⟨by repeat (first | (with_reducible first | exact HB.out | apply below_alloc | apply pw_below_drewN | apply below_drew1 | refine below_set ?_ GE238.out) | exact HB.out)⟩⟩
          · rw [if_neg c22] at H
            have c22b0 : (t241 == 0) = false := beq_eq_false_iff_ne.mpr c22
            have c22b1 : (t241 != 0) = true := bne_iff_ne.mpr c22
            have H' := Aside0.mk H
            clear H
            go_wp2
            go_meet
            case rel => exact ⟨_, (true), (by first | rfl | (simp; done) | (simp [*]; done) | (simp [wrap64]; done)), H', ⟨by first | omega | exact Nat.le_refl _⟩, ⟨by (with_reducible repeat (first | apply Kd.R_alloc | apply Kd.R_drewN | apply Kd.R_drew)); first | exact HO235.out | exact Kd.R_mono HO235.out (fun _ hk e => hk (e.trans (ownBlock_len _ _ _ _ _))) | exact Kd.R_mono HO235.out (fun _ hk => ⟨fun e => hk.1 (e.trans (ownBlock_len _ _ _ _ _)), fun e => hk.2 (e.trans (ownBlock_len _ _ _ _ _))⟩)⟩, ⟨by (with_reducible repeat (first | refine blk_drewN ?_ _ | refine blk_drew ?_ | refine blk_alloc ?_ _)); exact BK238.out⟩, ⟨by repeat (first | (with_reducible first | exact HB.out | apply below_alloc | apply pw_below_drewN | apply below_drew1 | refine below_set ?_ GE238.out) | exact HB.out)⟩⟩
        · rw [if_neg c21] at H
          have c21b0 : (t237 == 0) = false := beq_eq_false_iff_ne.mpr c21
          have c21b1 : (t237 != 0) = true := bne_iff_ne.mpr c21
          (first | rw [c21b0] | (simp only [i64_w, i32_w]; rw [c21b0]) | skip)
          have H' := Aside0.mk H
          clear H
          go_wp2
          go_meet
          case rel => exact ⟨_, (true), (by first | rfl | (simp; done) | (simp [*]; done) | (simp [wrap64]; done)), H', ⟨by first | omega | exact Nat.le_refl _⟩, ⟨by (with_reducible repeat (first | apply Kd.R_alloc | apply Kd.R_drewN | apply Kd.R_drew)); first | exact HO235.out | exact Kd.R_mono HO235.out (fun _ hk e => hk (e.trans (ownBlock_len _ _ _ _ _))) | exact Kd.R_mono HO235.out (fun _ hk => ⟨fun e => hk.1 (e.trans (ownBlock_len _ _ _ _ _)), fun e => hk.2 (e.trans (ownBlock_len _ _ _ _ _))⟩)⟩, ⟨by (with_reducible repeat (first | refine blk_drewN ?_ _ | refine blk_drew ?_ | refine blk_alloc ?_ _)); exact BK238.out⟩, ⟨by repeat (first | (with_reducible first | exact HB.out | apply below_alloc | apply pw_below_drewN | apply below_drew1 | refine below_set ?_ GE238.out) | exact HB.out)⟩⟩
      case rest =>
        clear HC14
        try clear c1
        try clear c2
        try clear p2
        try clear q2
        try clear hx2
        try clear qi2
        try clear c3
        try clear c3b0
        try clear c3b1
        try clear c5
        try clear c5b0
        try clear c5b1
        try clear p6
        try clear c10
        try clear c15
        try clear c18
        try clear c21
        try clear c21b0
        try clear c21b1
        try clear c22
        try clear c22b0
        try clear c22b1
        try clear c23
        try clear c23b0
        try clear c23b1
        try clear c24
        try clear c24b0
        try clear c24b1
        try clear c25
        try clear c25b0
        try clear c25b1
        try clear p26
        try clear q26
        try clear hx26
        try clear qi26
        try clear hcz11_0
        try clear hcz11_1
        try clear hcz19_0
        try clear hcz19_1
        try clear hfz11_0
        try clear hfz11_1
        try clear hfz19_0
        try clear hfz19_1
        try clear p26
        try clear q26
        obtain ⟨kq, x56_13, rfl, HA, HJ13, HO_239000, BK238, HB⟩ := hcut
        cases kq with
        | zero => exact absurd HA.out (by simp [pumicelaw02_NamesClean.j0])
        | succ kj13 =>
          have H := HA.out
          clear HA
          simp only [pumicelaw02_NamesClean.j0] at H
          by_cases c27 : x56_13 = true
          · subst c27
            have H1 : (none) = some r := by rw [if_pos rfl] at H; exact H
            clear H
            have H := H1
            clear H1
            exact absurd H (by simp)
          · replace c27 := Bool.eq_false_iff.mpr c27
            subst c27
            have H1 : (pumicelaw02_NamesClean.l0 kj13 0 t233 t236) = some r := by rw [if_neg (show ¬ (false = true) by decide)] at H; exact H
            clear H
            have H := H1
            clear H1
            have H' := Aside0.mk H
            clear H
            go_wp2
            go_loopg [9] kj13 (fun kq v9 w' => ∃ (x9_2 : Int), v9 = .int .i64 x9_2 ∧ Aside0 (pumicelaw02_NamesClean.l0 kq x9_2 t233 t236 = some r) ∧ Aside0 (kq ≤ kj13) ∧ Aside0 (Kd.R Kd.string 9 w' w.heap.size (fun _ => True) (.slice Ao18 t233.length co18) t233) ∧ Aside0 (w'.heap[gb238]? = some (.cells #[(.slice Ao18 t233.length co18), .bool t236] 24 (0, 0))) ∧ Aside0 (Below w.heap.size w w'))
            case atStart => exact ⟨(0), (by first | rfl | (simp; done) | (simp [*]; done) | (simp [wrap64]; done)), H', ⟨Nat.le_refl _⟩, ⟨by (with_reducible repeat (first | apply Kd.R_alloc | apply Kd.R_drewN | apply Kd.R_drew)); exact HO_239000.out⟩, ⟨by (with_reducible repeat (first | refine blk_drewN ?_ _ | refine blk_drew ?_ | refine blk_alloc ?_ _)); exact BK238.out⟩, ⟨by repeat (first | (with_reducible first | exact HB.out | apply below_alloc | apply pw_below_drewN | apply below_drew1 | refine below_set ?_ GE238.out) | exact HB.out)⟩⟩
            case round =>
              clear H'
              try clear c1
              try clear c2
              try clear p2
              try clear q2
              try clear hx2
              try clear qi2
              try clear c3
              try clear c3b0
              try clear c3b1
              try clear c5
              try clear c5b0
              try clear c5b1
              try clear p6
              try clear c10
              try clear c15
              try clear c18
              try clear c21
              try clear c21b0
              try clear c21b1
              try clear c22
              try clear c22b0
              try clear c22b1
              try clear c23
              try clear c23b0
              try clear c23b1
              try clear c24
              try clear c24b0
              try clear c24b1
              try clear c25
              try clear c25b0
              try clear c25b1
              try clear p26
              try clear q26
              try clear hx26
              try clear qi26
              try clear c27
              try clear hcz11_0
              try clear hcz11_1
              try clear hcz19_0
              try clear hcz19_1
              try clear hfz11_0
              try clear hfz11_1
              try clear hfz19_0
              try clear hfz19_1
              try clear p2
              try clear p26
              try clear p6
              try clear q2
              try clear q26
              obtain ⟨x9_2, rfl, HA, HK2, HO_239000, BK238, HB⟩ := hrel
              cases gk with
              | zero => exact absurd HA.out (by simp [pumicelaw02_NamesClean.l0])
              | succ k2 =>
                have H := HA.out
                clear HA
                simp only [pumicelaw02_NamesClean.l0] at H
                by_cases c28 : x9_2 < (t233.length : Int)
                · rw [if_pos c28] at H
                  have c28b0 : decide (x9_2 < (t233.length : Int)) = true := decide_eq_true c28
                  clear c28
                  by_cases c29 : 0 ≤ x9_2
                  · rw [if_pos c29] at H
                    have c29b0 : decide (0 ≤ x9_2) = true := decide_eq_true c29
                    clear c29
                    by_cases c30 : (rdOf ByteArray.empty t233 x9_2).toList = ([46] : List UInt8)
                    · rw [if_pos c30] at H
                      exact absurd H (by simp)
                    · rw [if_neg c30] at H
                      have c30b0 : ((rdOf ByteArray.empty t233 x9_2).toList == ([46] : List UInt8)) = false := beq_eq_false_iff_ne.mpr c30
                      have c30b1 : ((rdOf ByteArray.empty t233 x9_2).toList != ([46] : List UInt8)) = true := bne_iff_ne.mpr c30
                      by_cases c31 : (rdOf ByteArray.empty t233 x9_2).toList = ([46, 46] : List UInt8)
                      · rw [if_pos c31] at H
                        exact absurd H (by simp)
                      · rw [if_neg c31] at H
                        have c31b0 : ((rdOf ByteArray.empty t233 x9_2).toList == ([46, 46] : List UInt8)) = false := beq_eq_false_iff_ne.mpr c31
                        have c31b1 : ((rdOf ByteArray.empty t233 x9_2).toList != ([46, 46] : List UInt8)) = true := bne_iff_ne.mpr c31
                        have H' := Aside0.mk H
                        clear H
                        have hcz32_0 : wr.cell? ⟨gb238, 0, none⟩ = some (.slice Ao18 t233.length co18) := (blk_cell BK238.out 0).trans rfl
                        have hcz32_1 : wr.cell? ⟨gb238, 1, none⟩ = some (.bool t236) := (blk_cell BK238.out 1).trans rfl
                        have hfz32_0 := blk_frozen BK238.out 0
                        have hfz32_1 := blk_frozen BK238.out 1
                        have p242 : 0 ≤ (x9_2 : Int) := of_decide_eq_true (by first | (with_reducible assumption) | assumption)
                        have q242 : x9_2 < (t233.length : Int) := of_decide_eq_true (by first | (with_reducible assumption) | assumption)
                        obtain ⟨ad242, e242, hx242_0⟩ := Kd.at_string (Kd.R_reads' HO_239000.out).2.2 x9_2 p242 q242
                        cases e242
                        replace p242 := eq_true p242
                        replace q242 := eq_true q242
                        have p243 : 0 ≤ (x9_2 : Int) := of_decide_eq_true (by first | (with_reducible assumption) | assumption)
                        have q243 : x9_2 < (t233.length : Int) := of_decide_eq_true (by first | (with_reducible assumption) | assumption)
                        obtain ⟨ad243, e243, hx243_0⟩ := Kd.at_string (Kd.R_reads' HO_239000.out).2.2 x9_2 p243 q243
                        obtain rfl : ad242 = ad243 := (by injection e243)
                        replace p243 := eq_true p243
                        replace q243 := eq_true q243
                        go_wp2
                        go_roundg k2
                        case measure => have := HJ13.out; have := HK2.out; omega
                        case rel => exact ⟨(wrap64 (x9_2 + 1)), (by first | rfl | (simp; done) | (simp [*]; done) | (simp [wrap64]; done)), H', ⟨by have := HJ13.out; have := HK2.out; omega⟩, ⟨by (with_reducible repeat (first | apply Kd.R_alloc | apply Kd.R_drewN | apply Kd.R_drew)); first | exact HO_239000.out | exact Kd.R_mono HO_239000.out (fun _ hk e => hk (e.trans (ownBlock_len _ _ _ _ _))) | exact Kd.R_mono HO_239000.out (fun _ hk => ⟨fun e => hk.1 (e.trans (ownBlock_len _ _ _ _ _)), fun e => hk.2 (e.trans (ownBlock_len _ _ _ _ _))⟩)⟩, ⟨by (with_reducible repeat (first | refine blk_drewN ?_ _ | refine blk_drew ?_ | refine blk_alloc ?_ _)); exact BK238.out⟩, ⟨by repeat (first | (with_reducible first | exact HB.out | apply below_alloc | apply pw_below_drewN | apply below_drew1 | refine below_set ?_ GE238.out) | exact HB.out)⟩⟩
                  · rw [if_neg c29] at H
                    exact absurd H (by simp)
                · rw [if_neg c28] at H
                  have c28b0 : decide (x9_2 < (t233.length : Int)) = false := decide_eq_false c28
                  clear c28
                  replace H := Option.bind_eq_some_iff.mp H
                  obtain ⟨t244, A330, H⟩ := H
                  replace H : (some t244) = some r := H
                  have A33 := Aside0.mk A330
                  clear A330
                  obtain rfl := Option.some.inj H
                  have hcz34_0 : wr.cell? ⟨gb238, 0, none⟩ = some (.slice Ao18 t233.length co18) := (blk_cell BK238.out 0).trans rfl
                  have hcz34_1 : wr.cell? ⟨gb238, 1, none⟩ = some (.bool t236) := (blk_cell BK238.out 1).trans rfl
                  have hfz34_0 := blk_frozen BK238.out 0
                  have hfz34_1 := blk_frozen BK238.out 1
                  go_wp2_with (first | ((with_reducible refine gate_callee (f := 15) rfl ?_); refine goesL_ (some 78) rfl rfl Tryd.func15 (by kernel_rfl) rfl #[] rfl (by (try simp only [List.map_toArray, List.map_cons, List.map_nil]); first | done | rfl | (simp only [List.length_drop, List.length_take]; rfl)) ?_; (with_reducible refine (pumicelaw02_alive.calls k2  t244 _ A33.out).mono ?_); rintro e w35 ⟨rfl, hb⟩; refine ⟨_, rfl, ?_⟩; have n0_ := Aside0.mk (Kd.R_below (by (with_reducible repeat (first | apply Kd.R_alloc | apply Kd.R_drewN | apply Kd.R_drew)); exact HO_239000.out) hb); have n1_ := Aside0.mk (blk_below (g := gb238) (o := .cells #[.slice Ao18 t233.length co18, .bool t236] 24 (0, 0)) (by (with_reducible repeat (first | refine blk_drewN ?_ _ | refine blk_drew ?_ | refine blk_alloc ?_ _)); exact BK238.out) hb); have n2_ := Aside0.mk (below_step (by repeat (first | (with_reducible first | exact HB.out | apply below_alloc | apply pw_below_drewN | apply below_drew1 | refine below_set ?_ GE238.out) | exact HB.out)) hb); clear HO_239000; clear BK238; clear HB; have HO_239000 := n0_; have BK238 := n1_; have HB := n2_; clear n0_ n1_ n2_; (try clear hb); (try clear hb2); (try clear hk); (try clear hi)))
                  go_ret
                  exact ⟨by first | rfl | exact isEmpty_bne_ _ | (simp [errW_none, errW_some] <;> rfl) | (simp [*, errW_none, errW_some] <;> rfl), by repeat (first | (with_reducible first | exact HB.out | apply below_alloc | apply pw_below_drewN | apply below_drew1 | refine below_set ?_ GE238.out) | exact HB.out)⟩
  · rw [if_neg c3] at H
    have c3b0 : (t231 == 0) = false := beq_eq_false_iff_ne.mpr c3
    have c3b1 : (t231 != 0) = true := bne_iff_ne.mpr c3
    by_cases c36 : t230.toList = ([] : List UInt8)
    · rw [if_pos c36] at H
      have c36b0 : (t230.toList == ([] : List UInt8)) = true := beq_iff_eq.mpr c36
      have c36b1 : (t230.toList != ([] : List UInt8)) = false := bne_eq_false_iff_eq.mpr c36
      clear c36
      replace H := Option.bind_eq_some_iff.mp H
      obtain ⟨t232, A370, H⟩ := H
      replace H : (some t232) = some r := H
      have A37 := Aside0.mk A370
      clear A370
      obtain rfl := Option.some.inj H
      go_enter Tryd.func5, Tryd.ntmps5
      go_wp2_with (first | ((with_reducible refine gate_callee (f := 18) rfl ?_); refine goesL_ (some 12) rfl rfl Tryd.func18 (by kernel_rfl) rfl #[.string a0] rfl (by (try simp only [List.map_toArray, List.map_cons, List.map_nil]); first | done | rfl | (simp only [List.length_drop, List.length_take]; rfl)) ?_; (with_reducible refine (names_Clean.calls k a0 t230 t231 _ A2.out).mono ?_); rintro e w38 ⟨rfl, hb⟩; refine ⟨_, rfl, ?_⟩; have n0_ := Aside0.mk (below_step (by repeat (first | (with_reducible first | exact HB.out | apply below_alloc | apply pw_below_drewN | apply below_drew1) | exact HB.out)) hb); clear HB; have HB := n0_; clear n0_; (try clear hb); (try clear hb2); (try clear hk); (try clear hi)) | (go_at_call 15; (with_reducible refine (pumicelaw02_alive.calls k  t232 _ A37.out).mono ?_); rintro e w39 ⟨rfl, hb⟩; have n0_ := Aside0.mk (below_step (by repeat (first | (with_reducible first | exact HB.out | apply below_alloc | apply pw_below_drewN | apply below_drew1) | exact HB.out)) hb); clear HB; have HB := n0_; clear n0_; (try clear hb); (try clear hb2); (try clear hk); (try clear hi)))
      go_ret
      exact ⟨by first | rfl | exact isEmpty_bne_ _ | (simp [errW_none, errW_some] <;> rfl) | (simp [*, errW_none, errW_some] <;> rfl), by repeat (first | (with_reducible first | exact HB.out | apply below_alloc | apply pw_below_drewN | apply below_drew1) | exact HB.out)⟩
    · rw [if_neg c36] at H
      exact absurd H (by simp)

/-! ### pumicelaw02_NamesWithin: function 6 -/
def pumicelaw02_NamesWithin.j0 : Nat → List ByteArray → List ByteArray → Bool → Option (Bool)
  | 0, _, _, _ => none
  | k + 1, x0, x1, x43 => if x43 = true then (none) else ((some (([] : List ByteArray) : List ByteArray)).bind fun y258 => (if y258.length + x0.length < 8796093022208 then ((some (y258 ++ x0 : List ByteArray)).bind fun y261 => (if y261.length + x1.length < 8796093022208 then ((names_Within.f (y261 ++ x1) x0).bind fun t267 => (if t267 = true then ((pumicelaw02_alive.f k).bind fun t268 => (some t268)) else (none))) else (none))) else (none)))
def pumicelaw02_NamesWithin.f (k : Nat) (l0 : List ByteArray) (l1 : List ByteArray) (l2 : List ByteArray) : Option (Bool) := (names_Within.f l0 l0).bind fun t245 => (if t245 = true then ((names_Within.f l0 l1).bind fun t246 => (if t246 = true then ((names_Within.f l1 l2).bind fun t247 => (if t247 = true then ((names_Within.f l0 l2).bind fun t248 => (if t248 = true then ((names_Within.f l0 l1).bind fun t249 => (if t249 = true then ((names_Within.f l1 l0).bind fun t250 => (if t250 = true then ((pumicelaw02_Texts.f k l0 l1).bind fun t251 => (pumicelaw02_NamesWithin.j0 k l0 l1 (!t251))) else (pumicelaw02_NamesWithin.j0 k l0 l1 false))) else (pumicelaw02_NamesWithin.j0 k l0 l1 false))) else (pumicelaw02_NamesWithin.j0 k l0 l1 true))) else ((names_Within.f l0 l1).bind fun t252 => (if t252 = true then ((names_Within.f l1 l0).bind fun t253 => (if t253 = true then ((pumicelaw02_Texts.f k l0 l1).bind fun t254 => (pumicelaw02_NamesWithin.j0 k l0 l1 (!t254))) else (pumicelaw02_NamesWithin.j0 k l0 l1 false))) else (pumicelaw02_NamesWithin.j0 k l0 l1 false))))) else ((names_Within.f l0 l1).bind fun t255 => (if t255 = true then ((names_Within.f l1 l0).bind fun t256 => (if t256 = true then ((pumicelaw02_Texts.f k l0 l1).bind fun t257 => (pumicelaw02_NamesWithin.j0 k l0 l1 (!t257))) else (pumicelaw02_NamesWithin.j0 k l0 l1 false))) else (pumicelaw02_NamesWithin.j0 k l0 l1 false))))) else (pumicelaw02_NamesWithin.j0 k l0 l1 true))
theorem pumicelaw02_NamesWithin.mono_l : ∀ k, (∀ y0 y1 y2, LeO (pumicelaw02_NamesWithin.j0 k y0 y1 y2) (pumicelaw02_NamesWithin.j0 (k + 1) y0 y1 y2))
  | 0 => fun _ _ _ r h => by simp [pumicelaw02_NamesWithin.j0] at h
  | k + 1 => by
    have ih0 := pumicelaw02_NamesWithin.mono_l k
    · intro y0 y1 y2
      unfold pumicelaw02_NamesWithin.j0
      repeat' first
      | (with_reducible exact ih0 _ _ _)
      | (with_reducible exact pumicelaw02_Texts.mono _ _ _)
      | (with_reducible exact pumicelaw02_alive.mono _)
      | (with_reducible exact LeO.refl _)
      | (with_reducible exact LeO.none _)
      | (with_reducible refine LeO.ite ?_ ?_)
      | (with_reducible refine LeO.bind ?_ (fun _ => ?_))
      | exact ih0 _ _ _
      | exact pumicelaw02_Texts.mono _ _ _
      | exact pumicelaw02_alive.mono _
      | exact LeO.none _
      | refine LeO.ite ?_ ?_
      | refine LeO.bind ?_ (fun _ => ?_)
theorem pumicelaw02_NamesWithin.mono : ∀ a0 a1 a2 k, LeO (pumicelaw02_NamesWithin.f k a0 a1 a2) (pumicelaw02_NamesWithin.f (k + 1) a0 a1 a2) := by
  intro a0 a1 a2 k
  have ih0 := pumicelaw02_NamesWithin.mono_l k
  unfold pumicelaw02_NamesWithin.f
  repeat' first
      | (with_reducible exact ih0 _ _ _)
      | (with_reducible exact pumicelaw02_Texts.mono _ _ _)
      | (with_reducible exact pumicelaw02_alive.mono _)
      | (with_reducible exact LeO.refl _)
      | (with_reducible exact LeO.none _)
      | (with_reducible refine LeO.ite ?_ ?_)
      | (with_reducible refine LeO.bind ?_ (fun _ => ?_))
      | exact ih0 _ _ _
      | exact pumicelaw02_Texts.mono _ _ _
      | exact pumicelaw02_alive.mono _
      | exact LeO.none _
      | refine LeO.ite ?_ ?_
      | refine LeO.bind ?_ (fun _ => ?_)
set_option maxHeartbeats 8000000 in
set_option maxRecDepth 100000 in
theorem pumicelaw02_NamesWithin.calls (k : Nat) (A0 : Option Addr) (c0 : Nat) (l0 : List ByteArray) (A1 : Option Addr) (c1 : Nat) (l1 : List ByteArray) (A2 : Option Addr) (c2 : Nat) (l2 : List ByteArray) (r : Bool) (w : World) (hr0 : Kd.C Kd.string w A0 l0.length l0) (hc0 : l0.length ≤ c0) (hr1 : Kd.C Kd.string w A1 l1.length l1) (hc1 : l1.length ≤ c1) (hr2 : Kd.C Kd.string w A2 l2.length l2) (hc2 : l2.length ≤ c2) (h : pumicelaw02_NamesWithin.f k l0 l1 l2 = some r) :
    Calls Tryd.prog 6 #[.slice A0 l0.length c0, .slice A1 l1.length c1, .slice A2 l2.length c2] w fun e w' => e = .returned (.bool r) ∧ Below w.heap.size w w' := by
  have HR0 := Aside0.mk hr0
  have HC0 := Aside0.mk hc0
  clear hr0 hc0
  have HR1 := Aside0.mk hr1
  have HC1 := Aside0.mk hc1
  clear hr1 hc1
  have HR2 := Aside0.mk hr2
  have HC2 := Aside0.mk hc2
  clear hr2 hc2
  have HB := Aside0.mk (Below.refl w.heap.size w)
  have H : ((names_Within.f l0 l0).bind fun t245 => (if t245 = true then ((names_Within.f l0 l1).bind fun t246 => (if t246 = true then ((names_Within.f l1 l2).bind fun t247 => (if t247 = true then ((names_Within.f l0 l2).bind fun t248 => (if t248 = true then ((names_Within.f l0 l1).bind fun t249 => (if t249 = true then ((names_Within.f l1 l0).bind fun t250 => (if t250 = true then ((pumicelaw02_Texts.f k l0 l1).bind fun t251 => (pumicelaw02_NamesWithin.j0 k l0 l1 (!t251))) else (pumicelaw02_NamesWithin.j0 k l0 l1 false))) else (pumicelaw02_NamesWithin.j0 k l0 l1 false))) else (pumicelaw02_NamesWithin.j0 k l0 l1 true))) else ((names_Within.f l0 l1).bind fun t252 => (if t252 = true then ((names_Within.f l1 l0).bind fun t253 => (if t253 = true then ((pumicelaw02_Texts.f k l0 l1).bind fun t254 => (pumicelaw02_NamesWithin.j0 k l0 l1 (!t254))) else (pumicelaw02_NamesWithin.j0 k l0 l1 false))) else (pumicelaw02_NamesWithin.j0 k l0 l1 false))))) else ((names_Within.f l0 l1).bind fun t255 => (if t255 = true then ((names_Within.f l1 l0).bind fun t256 => (if t256 = true then ((pumicelaw02_Texts.f k l0 l1).bind fun t257 => (pumicelaw02_NamesWithin.j0 k l0 l1 (!t257))) else (pumicelaw02_NamesWithin.j0 k l0 l1 false))) else (pumicelaw02_NamesWithin.j0 k l0 l1 false))))) else (pumicelaw02_NamesWithin.j0 k l0 l1 true))) = some r := h
  clear h
  have HC4 := Aside0.mk H
  clear H
  go_enter Tryd.func6, Tryd.ntmps6
  go_upto_region 1 with (fail)
  go_cut [43] (fun v43 wc => ∃ (kq : Nat) (x43_3 : Bool), v43 = .bool x43_3 ∧ Aside0 (pumicelaw02_NamesWithin.j0 kq l0 l1 x43_3 = some r) ∧ Aside0 (kq ≤ k) ∧ Aside0 (Below w.heap.size w wc))
  case first =>
    have H := HC4.out
    clear HC4
    replace H := Option.bind_eq_some_iff.mp H
    obtain ⟨t245, A50, H⟩ := H
    replace H : (if t245 = true then ((names_Within.f l0 l1).bind fun t246 => (if t246 = true then ((names_Within.f l1 l2).bind fun t247 => (if t247 = true then ((names_Within.f l0 l2).bind fun t248 => (if t248 = true then ((names_Within.f l0 l1).bind fun t249 => (if t249 = true then ((names_Within.f l1 l0).bind fun t250 => (if t250 = true then ((pumicelaw02_Texts.f k l0 l1).bind fun t251 => (pumicelaw02_NamesWithin.j0 k l0 l1 (!t251))) else (pumicelaw02_NamesWithin.j0 k l0 l1 false))) else (pumicelaw02_NamesWithin.j0 k l0 l1 false))) else (pumicelaw02_NamesWithin.j0 k l0 l1 true))) else ((names_Within.f l0 l1).bind fun t252 => (if t252 = true then ((names_Within.f l1 l0).bind fun t253 => (if t253 = true then ((pumicelaw02_Texts.f k l0 l1).bind fun t254 => (pumicelaw02_NamesWithin.j0 k l0 l1 (!t254))) else (pumicelaw02_NamesWithin.j0 k l0 l1 false))) else (pumicelaw02_NamesWithin.j0 k l0 l1 false))))) else ((names_Within.f l0 l1).bind fun t255 => (if t255 = true then ((names_Within.f l1 l0).bind fun t256 => (if t256 = true then ((pumicelaw02_Texts.f k l0 l1).bind fun t257 => (pumicelaw02_NamesWithin.j0 k l0 l1 (!t257))) else (pumicelaw02_NamesWithin.j0 k l0 l1 false))) else (pumicelaw02_NamesWithin.j0 k l0 l1 false))))) else (pumicelaw02_NamesWithin.j0 k l0 l1 true)) = some r := H
    have A5 := Aside0.mk A50
    clear A50
    by_cases c6 : t245 = true
    · subst c6
      have H1 : ((names_Within.f l0 l1).bind fun t246 => (if t246 = true then ((names_Within.f l1 l2).bind fun t247 => (if t247 = true then ((names_Within.f l0 l2).bind fun t248 => (if t248 = true then ((names_Within.f l0 l1).bind fun t249 => (if t249 = true then ((names_Within.f l1 l0).bind fun t250 => (if t250 = true then ((pumicelaw02_Texts.f k l0 l1).bind fun t251 => (pumicelaw02_NamesWithin.j0 k l0 l1 (!t251))) else (pumicelaw02_NamesWithin.j0 k l0 l1 false))) else (pumicelaw02_NamesWithin.j0 k l0 l1 false))) else (pumicelaw02_NamesWithin.j0 k l0 l1 true))) else ((names_Within.f l0 l1).bind fun t252 => (if t252 = true then ((names_Within.f l1 l0).bind fun t253 => (if t253 = true then ((pumicelaw02_Texts.f k l0 l1).bind fun t254 => (pumicelaw02_NamesWithin.j0 k l0 l1 (!t254))) else (pumicelaw02_NamesWithin.j0 k l0 l1 false))) else (pumicelaw02_NamesWithin.j0 k l0 l1 false))))) else ((names_Within.f l0 l1).bind fun t255 => (if t255 = true then ((names_Within.f l1 l0).bind fun t256 => (if t256 = true then ((pumicelaw02_Texts.f k l0 l1).bind fun t257 => (pumicelaw02_NamesWithin.j0 k l0 l1 (!t257))) else (pumicelaw02_NamesWithin.j0 k l0 l1 false))) else (pumicelaw02_NamesWithin.j0 k l0 l1 false))))) = some r := by rw [if_pos rfl] at H; exact H
      clear H
      have H := H1
      clear H1
      replace H := Option.bind_eq_some_iff.mp H
      obtain ⟨t246, A70, H⟩ := H
      replace H : (if t246 = true then ((names_Within.f l1 l2).bind fun t247 => (if t247 = true then ((names_Within.f l0 l2).bind fun t248 => (if t248 = true then ((names_Within.f l0 l1).bind fun t249 => (if t249 = true then ((names_Within.f l1 l0).bind fun t250 => (if t250 = true then ((pumicelaw02_Texts.f k l0 l1).bind fun t251 => (pumicelaw02_NamesWithin.j0 k l0 l1 (!t251))) else (pumicelaw02_NamesWithin.j0 k l0 l1 false))) else (pumicelaw02_NamesWithin.j0 k l0 l1 false))) else (pumicelaw02_NamesWithin.j0 k l0 l1 true))) else ((names_Within.f l0 l1).bind fun t252 => (if t252 = true then ((names_Within.f l1 l0).bind fun t253 => (if t253 = true then ((pumicelaw02_Texts.f k l0 l1).bind fun t254 => (pumicelaw02_NamesWithin.j0 k l0 l1 (!t254))) else (pumicelaw02_NamesWithin.j0 k l0 l1 false))) else (pumicelaw02_NamesWithin.j0 k l0 l1 false))))) else ((names_Within.f l0 l1).bind fun t255 => (if t255 = true then ((names_Within.f l1 l0).bind fun t256 => (if t256 = true then ((pumicelaw02_Texts.f k l0 l1).bind fun t257 => (pumicelaw02_NamesWithin.j0 k l0 l1 (!t257))) else (pumicelaw02_NamesWithin.j0 k l0 l1 false))) else (pumicelaw02_NamesWithin.j0 k l0 l1 false)))) = some r := H
      have A7 := Aside0.mk A70
      clear A70
      by_cases c8 : t246 = true
      · subst c8
        have H1 : ((names_Within.f l1 l2).bind fun t247 => (if t247 = true then ((names_Within.f l0 l2).bind fun t248 => (if t248 = true then ((names_Within.f l0 l1).bind fun t249 => (if t249 = true then ((names_Within.f l1 l0).bind fun t250 => (if t250 = true then ((pumicelaw02_Texts.f k l0 l1).bind fun t251 => (pumicelaw02_NamesWithin.j0 k l0 l1 (!t251))) else (pumicelaw02_NamesWithin.j0 k l0 l1 false))) else (pumicelaw02_NamesWithin.j0 k l0 l1 false))) else (pumicelaw02_NamesWithin.j0 k l0 l1 true))) else ((names_Within.f l0 l1).bind fun t252 => (if t252 = true then ((names_Within.f l1 l0).bind fun t253 => (if t253 = true then ((pumicelaw02_Texts.f k l0 l1).bind fun t254 => (pumicelaw02_NamesWithin.j0 k l0 l1 (!t254))) else (pumicelaw02_NamesWithin.j0 k l0 l1 false))) else (pumicelaw02_NamesWithin.j0 k l0 l1 false))))) = some r := by rw [if_pos rfl] at H; exact H
        clear H
        have H := H1
        clear H1
        replace H := Option.bind_eq_some_iff.mp H
        obtain ⟨t247, A90, H⟩ := H
        replace H : (if t247 = true then ((names_Within.f l0 l2).bind fun t248 => (if t248 = true then ((names_Within.f l0 l1).bind fun t249 => (if t249 = true then ((names_Within.f l1 l0).bind fun t250 => (if t250 = true then ((pumicelaw02_Texts.f k l0 l1).bind fun t251 => (pumicelaw02_NamesWithin.j0 k l0 l1 (!t251))) else (pumicelaw02_NamesWithin.j0 k l0 l1 false))) else (pumicelaw02_NamesWithin.j0 k l0 l1 false))) else (pumicelaw02_NamesWithin.j0 k l0 l1 true))) else ((names_Within.f l0 l1).bind fun t252 => (if t252 = true then ((names_Within.f l1 l0).bind fun t253 => (if t253 = true then ((pumicelaw02_Texts.f k l0 l1).bind fun t254 => (pumicelaw02_NamesWithin.j0 k l0 l1 (!t254))) else (pumicelaw02_NamesWithin.j0 k l0 l1 false))) else (pumicelaw02_NamesWithin.j0 k l0 l1 false)))) = some r := H
        have A9 := Aside0.mk A90
        clear A90
        by_cases c10 : t247 = true
        · subst c10
          have H1 : ((names_Within.f l0 l2).bind fun t248 => (if t248 = true then ((names_Within.f l0 l1).bind fun t249 => (if t249 = true then ((names_Within.f l1 l0).bind fun t250 => (if t250 = true then ((pumicelaw02_Texts.f k l0 l1).bind fun t251 => (pumicelaw02_NamesWithin.j0 k l0 l1 (!t251))) else (pumicelaw02_NamesWithin.j0 k l0 l1 false))) else (pumicelaw02_NamesWithin.j0 k l0 l1 false))) else (pumicelaw02_NamesWithin.j0 k l0 l1 true))) = some r := by rw [if_pos rfl] at H; exact H
          clear H
          have H := H1
          clear H1
          replace H := Option.bind_eq_some_iff.mp H
          obtain ⟨t248, A110, H⟩ := H
          replace H : (if t248 = true then ((names_Within.f l0 l1).bind fun t249 => (if t249 = true then ((names_Within.f l1 l0).bind fun t250 => (if t250 = true then ((pumicelaw02_Texts.f k l0 l1).bind fun t251 => (pumicelaw02_NamesWithin.j0 k l0 l1 (!t251))) else (pumicelaw02_NamesWithin.j0 k l0 l1 false))) else (pumicelaw02_NamesWithin.j0 k l0 l1 false))) else (pumicelaw02_NamesWithin.j0 k l0 l1 true)) = some r := H
          have A11 := Aside0.mk A110
          clear A110
          by_cases c12 : t248 = true
          · subst c12
            have H1 : ((names_Within.f l0 l1).bind fun t249 => (if t249 = true then ((names_Within.f l1 l0).bind fun t250 => (if t250 = true then ((pumicelaw02_Texts.f k l0 l1).bind fun t251 => (pumicelaw02_NamesWithin.j0 k l0 l1 (!t251))) else (pumicelaw02_NamesWithin.j0 k l0 l1 false))) else (pumicelaw02_NamesWithin.j0 k l0 l1 false))) = some r := by rw [if_pos rfl] at H; exact H
            clear H
            have H := H1
            clear H1
            replace H := Option.bind_eq_some_iff.mp H
            obtain ⟨t249, A130, H⟩ := H
            replace H : (if t249 = true then ((names_Within.f l1 l0).bind fun t250 => (if t250 = true then ((pumicelaw02_Texts.f k l0 l1).bind fun t251 => (pumicelaw02_NamesWithin.j0 k l0 l1 (!t251))) else (pumicelaw02_NamesWithin.j0 k l0 l1 false))) else (pumicelaw02_NamesWithin.j0 k l0 l1 false)) = some r := H
            have A13 := Aside0.mk A130
            clear A130
            by_cases c14 : t249 = true
            · subst c14
              have H1 : ((names_Within.f l1 l0).bind fun t250 => (if t250 = true then ((pumicelaw02_Texts.f k l0 l1).bind fun t251 => (pumicelaw02_NamesWithin.j0 k l0 l1 (!t251))) else (pumicelaw02_NamesWithin.j0 k l0 l1 false))) = some r := by rw [if_pos rfl] at H; exact H
              clear H
              have H := H1
              clear H1
              replace H := Option.bind_eq_some_iff.mp H
              obtain ⟨t250, A150, H⟩ := H
              replace H : (if t250 = true then ((pumicelaw02_Texts.f k l0 l1).bind fun t251 => (pumicelaw02_NamesWithin.j0 k l0 l1 (!t251))) else (pumicelaw02_NamesWithin.j0 k l0 l1 false)) = some r := H
              have A15 := Aside0.mk A150
              clear A150
              by_cases c16 : t250 = true
              · subst c16
                have H1 : ((pumicelaw02_Texts.f k l0 l1).bind fun t251 => (pumicelaw02_NamesWithin.j0 k l0 l1 (!t251))) = some r := by rw [if_pos rfl] at H; exact H
                clear H
                have H := H1
                clear H1
                replace H := Option.bind_eq_some_iff.mp H
                obtain ⟨t251, A170, H⟩ := H
                replace H : (pumicelaw02_NamesWithin.j0 k l0 l1 (!t251)) = some r := H
                have A17 := Aside0.mk A170
                clear A170
                have H' := Aside0.mk H
                clear H
                go_wp2_with (first | ((with_reducible refine gate_callee (f := 19) rfl ?_); refine goesL_ (some 10) rfl rfl Tryd.func19 (by kernel_rfl) rfl #[.slice A0 l0.length c0, .slice A0 l0.length c0] rfl (by (try simp only [List.map_toArray, List.map_cons, List.map_nil]); first | done | rfl | (simp only [List.length_drop, List.length_take]; rfl)) ?_; (with_reducible refine (names_Within.calls _ _ l0 _ _ l0 true _ ?side1 ?side2 ?side3 ?side4 A5.out).mono ?_); (case side1 => repeat (first | exact (Kd.C_below HR0.out HB.out) | (with_reducible refine Kd.C_alloc ?_ _) | (with_reducible refine Kd.C_drewN ?_ _) | (with_reducible refine Kd.C_drew ?_))); (case side2 => exact HC0.out); (case side3 => repeat (first | exact (Kd.C_below HR0.out HB.out) | (with_reducible refine Kd.C_alloc ?_ _) | (with_reducible refine Kd.C_drewN ?_ _) | (with_reducible refine Kd.C_drew ?_))); (case side4 => exact HC0.out); rintro e w18 ⟨rfl, hb⟩; refine ⟨_, rfl, ?_⟩; have n0_ := Aside0.mk (below_step (by repeat (first | (with_reducible first | exact HB.out | apply below_alloc | apply pw_below_drewN | apply below_drew1) | exact HB.out)) hb); clear HB; have HB := n0_; clear n0_; (try clear hb); (try clear hb2); (try clear hk); (try clear hi)) | (go_at_call 19; (with_reducible refine (names_Within.calls _ _ l0 _ _ l1 true _ ?side1 ?side2 ?side3 ?side4 A7.out).mono ?_); (case side1 => repeat (first | exact (Kd.C_below HR0.out HB.out) | (with_reducible refine Kd.C_alloc ?_ _) | (with_reducible refine Kd.C_drewN ?_ _) | (with_reducible refine Kd.C_drew ?_))); (case side2 => exact HC0.out); (case side3 => repeat (first | exact (Kd.C_below HR1.out HB.out) | (with_reducible refine Kd.C_alloc ?_ _) | (with_reducible refine Kd.C_drewN ?_ _) | (with_reducible refine Kd.C_drew ?_))); (case side4 => exact HC1.out); rintro e w19 ⟨rfl, hb⟩; have n0_ := Aside0.mk (below_step (by repeat (first | (with_reducible first | exact HB.out | apply below_alloc | apply pw_below_drewN | apply below_drew1) | exact HB.out)) hb); clear HB; have HB := n0_; clear n0_; (try clear hb); (try clear hb2); (try clear hk); (try clear hi)) | (go_at_call 19; (with_reducible refine (names_Within.calls _ _ l1 _ _ l2 true _ ?side1 ?side2 ?side3 ?side4 A9.out).mono ?_); (case side1 => repeat (first | exact (Kd.C_below HR1.out HB.out) | (with_reducible refine Kd.C_alloc ?_ _) | (with_reducible refine Kd.C_drewN ?_ _) | (with_reducible refine Kd.C_drew ?_))); (case side2 => exact HC1.out); (case side3 => repeat (first | exact (Kd.C_below HR2.out HB.out) | (with_reducible refine Kd.C_alloc ?_ _) | (with_reducible refine Kd.C_drewN ?_ _) | (with_reducible refine Kd.C_drew ?_))); (case side4 => exact HC2.out); rintro e w20 ⟨rfl, hb⟩; have n0_ := Aside0.mk (below_step (by repeat (first | (with_reducible first | exact HB.out | apply below_alloc | apply pw_below_drewN | apply below_drew1) | exact HB.out)) hb); clear HB; have HB := n0_; clear n0_; (try clear hb); (try clear hb2); (try clear hk); (try clear hi)) | (go_at_call 19; (with_reducible refine (names_Within.calls _ _ l0 _ _ l2 true _ ?side1 ?side2 ?side3 ?side4 A11.out).mono ?_); (case side1 => repeat (first | exact (Kd.C_below HR0.out HB.out) | (with_reducible refine Kd.C_alloc ?_ _) | (with_reducible refine Kd.C_drewN ?_ _) | (with_reducible refine Kd.C_drew ?_))); (case side2 => exact HC0.out); (case side3 => repeat (first | exact (Kd.C_below HR2.out HB.out) | (with_reducible refine Kd.C_alloc ?_ _) | (with_reducible refine Kd.C_drewN ?_ _) | (with_reducible refine Kd.C_drew ?_))); (case side4 => exact HC2.out); rintro e w21 ⟨rfl, hb⟩; have n0_ := Aside0.mk (below_step (by repeat (first | (with_reducible first | exact HB.out | apply below_alloc | apply pw_below_drewN | apply below_drew1) | exact HB.out)) hb); clear HB; have HB := n0_; clear n0_; (try clear hb); (try clear hb2); (try clear hk); (try clear hi)) | (go_at_call 19; (with_reducible refine (names_Within.calls _ _ l0 _ _ l1 true _ ?side1 ?side2 ?side3 ?side4 A13.out).mono ?_); (case side1 => repeat (first | exact (Kd.C_below HR0.out HB.out) | (with_reducible refine Kd.C_alloc ?_ _) | (with_reducible refine Kd.C_drewN ?_ _) | (with_reducible refine Kd.C_drew ?_))); (case side2 => exact HC0.out); (case side3 => repeat (first | exact (Kd.C_below HR1.out HB.out) | (with_reducible refine Kd.C_alloc ?_ _) | (with_reducible refine Kd.C_drewN ?_ _) | (with_reducible refine Kd.C_drew ?_))); (case side4 => exact HC1.out); rintro e w22 ⟨rfl, hb⟩; have n0_ := Aside0.mk (below_step (by repeat (first | (with_reducible first | exact HB.out | apply below_alloc | apply pw_below_drewN | apply below_drew1) | exact HB.out)) hb); clear HB; have HB := n0_; clear n0_; (try clear hb); (try clear hb2); (try clear hk); (try clear hi)) | (go_at_call 19; (with_reducible refine (names_Within.calls _ _ l1 _ _ l0 true _ ?side1 ?side2 ?side3 ?side4 A15.out).mono ?_); (case side1 => repeat (first | exact (Kd.C_below HR1.out HB.out) | (with_reducible refine Kd.C_alloc ?_ _) | (with_reducible refine Kd.C_drewN ?_ _) | (with_reducible refine Kd.C_drew ?_))); (case side2 => exact HC1.out); (case side3 => repeat (first | exact (Kd.C_below HR0.out HB.out) | (with_reducible refine Kd.C_alloc ?_ _) | (with_reducible refine Kd.C_drewN ?_ _) | (with_reducible refine Kd.C_drew ?_))); (case side4 => exact HC0.out); rintro e w23 ⟨rfl, hb⟩; have n0_ := Aside0.mk (below_step (by repeat (first | (with_reducible first | exact HB.out | apply below_alloc | apply pw_below_drewN | apply below_drew1) | exact HB.out)) hb); clear HB; have HB := n0_; clear n0_; (try clear hb); (try clear hb2); (try clear hk); (try clear hi)) | (go_at_call 17; (with_reducible refine (pumicelaw02_Texts.calls k _ _ l0 _ _ l1 t251 _ ?side1 ?side2 ?side3 ?side4 A17.out).mono ?_); (case side1 => repeat (first | exact (Kd.C_below HR0.out HB.out) | (with_reducible refine Kd.C_alloc ?_ _) | (with_reducible refine Kd.C_drewN ?_ _) | (with_reducible refine Kd.C_drew ?_))); (case side2 => exact HC0.out); (case side3 => repeat (first | exact (Kd.C_below HR1.out HB.out) | (with_reducible refine Kd.C_alloc ?_ _) | (with_reducible refine Kd.C_drewN ?_ _) | (with_reducible refine Kd.C_drew ?_))); (case side4 => exact HC1.out); rintro e w' ⟨rfl, ⟨nd, rfl⟩⟩))
                go_meet
                case rel => exact ⟨_, (!t251), (by first | rfl | (simp; done) | (simp [*]; done) | (simp [wrap64]; done)), H', ⟨by first | omega | exact Nat.le_refl _⟩, ⟨by repeat (first | (with_reducible first | exact HB.out | apply below_alloc | apply pw_below_drewN | apply below_drew1) | exact HB.out)⟩⟩
              · replace c16 := Bool.eq_false_iff.mpr c16
                subst c16
                have H1 : (pumicelaw02_NamesWithin.j0 k l0 l1 false) = some r := by rw [if_neg (show ¬ (false = true) by decide)] at H; exact H
                clear H
                have H := H1
                clear H1
                have H' := Aside0.mk H
                clear H
                go_wp2_with (first | ((with_reducible refine gate_callee (f := 19) rfl ?_); refine goesL_ (some 10) rfl rfl Tryd.func19 (by kernel_rfl) rfl #[.slice A0 l0.length c0, .slice A0 l0.length c0] rfl (by (try simp only [List.map_toArray, List.map_cons, List.map_nil]); first | done | rfl | (simp only [List.length_drop, List.length_take]; rfl)) ?_; (with_reducible refine (names_Within.calls _ _ l0 _ _ l0 true _ ?side1 ?side2 ?side3 ?side4 A5.out).mono ?_); (case side1 => repeat (first | exact (Kd.C_below HR0.out HB.out) | (with_reducible refine Kd.C_alloc ?_ _) | (with_reducible refine Kd.C_drewN ?_ _) | (with_reducible refine Kd.C_drew ?_))); (case side2 => exact HC0.out); (case side3 => repeat (first | exact (Kd.C_below HR0.out HB.out) | (with_reducible refine Kd.C_alloc ?_ _) | (with_reducible refine Kd.C_drewN ?_ _) | (with_reducible refine Kd.C_drew ?_))); (case side4 => exact HC0.out); rintro e w24 ⟨rfl, hb⟩; refine ⟨_, rfl, ?_⟩; have n0_ := Aside0.mk (below_step (by repeat (first | (with_reducible first | exact HB.out | apply below_alloc | apply pw_below_drewN | apply below_drew1) | exact HB.out)) hb); clear HB; have HB := n0_; clear n0_; (try clear hb); (try clear hb2); (try clear hk); (try clear hi)) | (go_at_call 19; (with_reducible refine (names_Within.calls _ _ l0 _ _ l1 true _ ?side1 ?side2 ?side3 ?side4 A7.out).mono ?_); (case side1 => repeat (first | exact (Kd.C_below HR0.out HB.out) | (with_reducible refine Kd.C_alloc ?_ _) | (with_reducible refine Kd.C_drewN ?_ _) | (with_reducible refine Kd.C_drew ?_))); (case side2 => exact HC0.out); (case side3 => repeat (first | exact (Kd.C_below HR1.out HB.out) | (with_reducible refine Kd.C_alloc ?_ _) | (with_reducible refine Kd.C_drewN ?_ _) | (with_reducible refine Kd.C_drew ?_))); (case side4 => exact HC1.out); rintro e w25 ⟨rfl, hb⟩; have n0_ := Aside0.mk (below_step (by repeat (first | (with_reducible first | exact HB.out | apply below_alloc | apply pw_below_drewN | apply below_drew1) | exact HB.out)) hb); clear HB; have HB := n0_; clear n0_; (try clear hb); (try clear hb2); (try clear hk); (try clear hi)) | (go_at_call 19; (with_reducible refine (names_Within.calls _ _ l1 _ _ l2 true _ ?side1 ?side2 ?side3 ?side4 A9.out).mono ?_); (case side1 => repeat (first | exact (Kd.C_below HR1.out HB.out) | (with_reducible refine Kd.C_alloc ?_ _) | (with_reducible refine Kd.C_drewN ?_ _) | (with_reducible refine Kd.C_drew ?_))); (case side2 => exact HC1.out); (case side3 => repeat (first | exact (Kd.C_below HR2.out HB.out) | (with_reducible refine Kd.C_alloc ?_ _) | (with_reducible refine Kd.C_drewN ?_ _) | (with_reducible refine Kd.C_drew ?_))); (case side4 => exact HC2.out); rintro e w26 ⟨rfl, hb⟩; have n0_ := Aside0.mk (below_step (by repeat (first | (with_reducible first | exact HB.out | apply below_alloc | apply pw_below_drewN | apply below_drew1) | exact HB.out)) hb); clear HB; have HB := n0_; clear n0_; (try clear hb); (try clear hb2); (try clear hk); (try clear hi)) | (go_at_call 19; (with_reducible refine (names_Within.calls _ _ l0 _ _ l2 true _ ?side1 ?side2 ?side3 ?side4 A11.out).mono ?_); (case side1 => repeat (first | exact (Kd.C_below HR0.out HB.out) | (with_reducible refine Kd.C_alloc ?_ _) | (with_reducible refine Kd.C_drewN ?_ _) | (with_reducible refine Kd.C_drew ?_))); (case side2 => exact HC0.out); (case side3 => repeat (first | exact (Kd.C_below HR2.out HB.out) | (with_reducible refine Kd.C_alloc ?_ _) | (with_reducible refine Kd.C_drewN ?_ _) | (with_reducible refine Kd.C_drew ?_))); (case side4 => exact HC2.out); rintro e w27 ⟨rfl, hb⟩; have n0_ := Aside0.mk (below_step (by repeat (first | (with_reducible first | exact HB.out | apply below_alloc | apply pw_below_drewN | apply below_drew1) | exact HB.out)) hb); clear HB; have HB := n0_; clear n0_; (try clear hb); (try clear hb2); (try clear hk); (try clear hi)) | (go_at_call 19; (with_reducible refine (names_Within.calls _ _ l0 _ _ l1 true _ ?side1 ?side2 ?side3 ?side4 A13.out).mono ?_); (case side1 => repeat (first | exact (Kd.C_below HR0.out HB.out) | (with_reducible refine Kd.C_alloc ?_ _) | (with_reducible refine Kd.C_drewN ?_ _) | (with_reducible refine Kd.C_drew ?_))); (case side2 => exact HC0.out); (case side3 => repeat (first | exact (Kd.C_below HR1.out HB.out) | (with_reducible refine Kd.C_alloc ?_ _) | (with_reducible refine Kd.C_drewN ?_ _) | (with_reducible refine Kd.C_drew ?_))); (case side4 => exact HC1.out); rintro e w28 ⟨rfl, hb⟩; have n0_ := Aside0.mk (below_step (by repeat (first | (with_reducible first | exact HB.out | apply below_alloc | apply pw_below_drewN | apply below_drew1) | exact HB.out)) hb); clear HB; have HB := n0_; clear n0_; (try clear hb); (try clear hb2); (try clear hk); (try clear hi)) | (go_at_call 19; (with_reducible refine (names_Within.calls _ _ l1 _ _ l0 false _ ?side1 ?side2 ?side3 ?side4 A15.out).mono ?_); (case side1 => repeat (first | exact (Kd.C_below HR1.out HB.out) | (with_reducible refine Kd.C_alloc ?_ _) | (with_reducible refine Kd.C_drewN ?_ _) | (with_reducible refine Kd.C_drew ?_))); (case side2 => exact HC1.out); (case side3 => repeat (first | exact (Kd.C_below HR0.out HB.out) | (with_reducible refine Kd.C_alloc ?_ _) | (with_reducible refine Kd.C_drewN ?_ _) | (with_reducible refine Kd.C_drew ?_))); (case side4 => exact HC0.out); rintro e w29 ⟨rfl, hb⟩; have n0_ := Aside0.mk (below_step (by repeat (first | (with_reducible first | exact HB.out | apply below_alloc | apply pw_below_drewN | apply below_drew1) | exact HB.out)) hb); clear HB; have HB := n0_; clear n0_; (try clear hb); (try clear hb2); (try clear hk); (try clear hi)))
                go_meet
                case rel => exact ⟨_, (false), (by first | rfl | (simp; done) | (simp [*]; done) | (simp [wrap64]; done)), H', ⟨by first | omega | exact Nat.le_refl _⟩, ⟨by repeat (first | (with_reducible first | exact HB.out | apply below_alloc | apply pw_below_drewN | apply below_drew1) | exact HB.out)⟩⟩
            · replace c14 := Bool.eq_false_iff.mpr c14
              subst c14
              have H1 : (pumicelaw02_NamesWithin.j0 k l0 l1 false) = some r := by rw [if_neg (show ¬ (false = true) by decide)] at H; exact H
              clear H
              have H := H1
              clear H1
              have H' := Aside0.mk H
              clear H
              exact absurd (A7.out.symm.trans A13.out) (by simp)
          · replace c12 := Bool.eq_false_iff.mpr c12
            subst c12
            have H1 : (pumicelaw02_NamesWithin.j0 k l0 l1 true) = some r := by rw [if_neg (show ¬ (false = true) by decide)] at H; exact H
            clear H
            have H := H1
            clear H1
            have H' := Aside0.mk H
            clear H
            go_wp2_with (first | ((with_reducible refine gate_callee (f := 19) rfl ?_); refine goesL_ (some 10) rfl rfl Tryd.func19 (by kernel_rfl) rfl #[.slice A0 l0.length c0, .slice A0 l0.length c0] rfl (by (try simp only [List.map_toArray, List.map_cons, List.map_nil]); first | done | rfl | (simp only [List.length_drop, List.length_take]; rfl)) ?_; (with_reducible refine (names_Within.calls _ _ l0 _ _ l0 true _ ?side1 ?side2 ?side3 ?side4 A5.out).mono ?_); (case side1 => repeat (first | exact (Kd.C_below HR0.out HB.out) | (with_reducible refine Kd.C_alloc ?_ _) | (with_reducible refine Kd.C_drewN ?_ _) | (with_reducible refine Kd.C_drew ?_))); (case side2 => exact HC0.out); (case side3 => repeat (first | exact (Kd.C_below HR0.out HB.out) | (with_reducible refine Kd.C_alloc ?_ _) | (with_reducible refine Kd.C_drewN ?_ _) | (with_reducible refine Kd.C_drew ?_))); (case side4 => exact HC0.out); rintro e w35 ⟨rfl, hb⟩; refine ⟨_, rfl, ?_⟩; have n0_ := Aside0.mk (below_step (by repeat (first | (with_reducible first | exact HB.out | apply below_alloc | apply pw_below_drewN | apply below_drew1) | exact HB.out)) hb); clear HB; have HB := n0_; clear n0_; (try clear hb); (try clear hb2); (try clear hk); (try clear hi)) | (go_at_call 19; (with_reducible refine (names_Within.calls _ _ l0 _ _ l1 true _ ?side1 ?side2 ?side3 ?side4 A7.out).mono ?_); (case side1 => repeat (first | exact (Kd.C_below HR0.out HB.out) | (with_reducible refine Kd.C_alloc ?_ _) | (with_reducible refine Kd.C_drewN ?_ _) | (with_reducible refine Kd.C_drew ?_))); (case side2 => exact HC0.out); (case side3 => repeat (first | exact (Kd.C_below HR1.out HB.out) | (with_reducible refine Kd.C_alloc ?_ _) | (with_reducible refine Kd.C_drewN ?_ _) | (with_reducible refine Kd.C_drew ?_))); (case side4 => exact HC1.out); rintro e w36 ⟨rfl, hb⟩; have n0_ := Aside0.mk (below_step (by repeat (first | (with_reducible first | exact HB.out | apply below_alloc | apply pw_below_drewN | apply below_drew1) | exact HB.out)) hb); clear HB; have HB := n0_; clear n0_; (try clear hb); (try clear hb2); (try clear hk); (try clear hi)) | (go_at_call 19; (with_reducible refine (names_Within.calls _ _ l1 _ _ l2 true _ ?side1 ?side2 ?side3 ?side4 A9.out).mono ?_); (case side1 => repeat (first | exact (Kd.C_below HR1.out HB.out) | (with_reducible refine Kd.C_alloc ?_ _) | (with_reducible refine Kd.C_drewN ?_ _) | (with_reducible refine Kd.C_drew ?_))); (case side2 => exact HC1.out); (case side3 => repeat (first | exact (Kd.C_below HR2.out HB.out) | (with_reducible refine Kd.C_alloc ?_ _) | (with_reducible refine Kd.C_drewN ?_ _) | (with_reducible refine Kd.C_drew ?_))); (case side4 => exact HC2.out); rintro e w37 ⟨rfl, hb⟩; have n0_ := Aside0.mk (below_step (by repeat (first | (with_reducible first | exact HB.out | apply below_alloc | apply pw_below_drewN | apply below_drew1) | exact HB.out)) hb); clear HB; have HB := n0_; clear n0_; (try clear hb); (try clear hb2); (try clear hk); (try clear hi)) | (go_at_call 19; (with_reducible refine (names_Within.calls _ _ l0 _ _ l2 false _ ?side1 ?side2 ?side3 ?side4 A11.out).mono ?_); (case side1 => repeat (first | exact (Kd.C_below HR0.out HB.out) | (with_reducible refine Kd.C_alloc ?_ _) | (with_reducible refine Kd.C_drewN ?_ _) | (with_reducible refine Kd.C_drew ?_))); (case side2 => exact HC0.out); (case side3 => repeat (first | exact (Kd.C_below HR2.out HB.out) | (with_reducible refine Kd.C_alloc ?_ _) | (with_reducible refine Kd.C_drewN ?_ _) | (with_reducible refine Kd.C_drew ?_))); (case side4 => exact HC2.out); rintro e w38 ⟨rfl, hb⟩; have n0_ := Aside0.mk (below_step (by repeat (first | (with_reducible first | exact HB.out | apply below_alloc | apply pw_below_drewN | apply below_drew1) | exact HB.out)) hb); clear HB; have HB := n0_; clear n0_; (try clear hb); (try clear hb2); (try clear hk); (try clear hi)))
            go_meet
            case rel => exact ⟨_, (true), (by first | rfl | (simp; done) | (simp [*]; done) | (simp [wrap64]; done)), H', ⟨by first | omega | exact Nat.le_refl _⟩, ⟨by repeat (first | (with_reducible first | exact HB.out | apply below_alloc | apply pw_below_drewN | apply below_drew1) | exact HB.out)⟩⟩
        · replace c10 := Bool.eq_false_iff.mpr c10
          subst c10
          have H1 : ((names_Within.f l0 l1).bind fun t252 => (if t252 = true then ((names_Within.f l1 l0).bind fun t253 => (if t253 = true then ((pumicelaw02_Texts.f k l0 l1).bind fun t254 => (pumicelaw02_NamesWithin.j0 k l0 l1 (!t254))) else (pumicelaw02_NamesWithin.j0 k l0 l1 false))) else (pumicelaw02_NamesWithin.j0 k l0 l1 false))) = some r := by rw [if_neg (show ¬ (false = true) by decide)] at H; exact H
          clear H
          have H := H1
          clear H1
          replace H := Option.bind_eq_some_iff.mp H
          obtain ⟨t252, A390, H⟩ := H
          replace H : (if t252 = true then ((names_Within.f l1 l0).bind fun t253 => (if t253 = true then ((pumicelaw02_Texts.f k l0 l1).bind fun t254 => (pumicelaw02_NamesWithin.j0 k l0 l1 (!t254))) else (pumicelaw02_NamesWithin.j0 k l0 l1 false))) else (pumicelaw02_NamesWithin.j0 k l0 l1 false)) = some r := H
          have A39 := Aside0.mk A390
          clear A390
          by_cases c40 : t252 = true
          · subst c40
            have H1 : ((names_Within.f l1 l0).bind fun t253 => (if t253 = true then ((pumicelaw02_Texts.f k l0 l1).bind fun t254 => (pumicelaw02_NamesWithin.j0 k l0 l1 (!t254))) else (pumicelaw02_NamesWithin.j0 k l0 l1 false))) = some r := by rw [if_pos rfl] at H; exact H
            clear H
            have H := H1
            clear H1
            replace H := Option.bind_eq_some_iff.mp H
            obtain ⟨t253, A410, H⟩ := H
            replace H : (if t253 = true then ((pumicelaw02_Texts.f k l0 l1).bind fun t254 => (pumicelaw02_NamesWithin.j0 k l0 l1 (!t254))) else (pumicelaw02_NamesWithin.j0 k l0 l1 false)) = some r := H
            have A41 := Aside0.mk A410
            clear A410
            by_cases c42 : t253 = true
            · subst c42
              have H1 : ((pumicelaw02_Texts.f k l0 l1).bind fun t254 => (pumicelaw02_NamesWithin.j0 k l0 l1 (!t254))) = some r := by rw [if_pos rfl] at H; exact H
              clear H
              have H := H1
              clear H1
              replace H := Option.bind_eq_some_iff.mp H
              obtain ⟨t254, A430, H⟩ := H
              replace H : (pumicelaw02_NamesWithin.j0 k l0 l1 (!t254)) = some r := H
              have A43 := Aside0.mk A430
              clear A430
              have H' := Aside0.mk H
              clear H
              go_wp2_with (first | ((with_reducible refine gate_callee (f := 19) rfl ?_); refine goesL_ (some 10) rfl rfl Tryd.func19 (by kernel_rfl) rfl #[.slice A0 l0.length c0, .slice A0 l0.length c0] rfl (by (try simp only [List.map_toArray, List.map_cons, List.map_nil]); first | done | rfl | (simp only [List.length_drop, List.length_take]; rfl)) ?_; (with_reducible refine (names_Within.calls _ _ l0 _ _ l0 true _ ?side1 ?side2 ?side3 ?side4 A5.out).mono ?_); (case side1 => repeat (first | exact (Kd.C_below HR0.out HB.out) | (with_reducible refine Kd.C_alloc ?_ _) | (with_reducible refine Kd.C_drewN ?_ _) | (with_reducible refine Kd.C_drew ?_))); (case side2 => exact HC0.out); (case side3 => repeat (first | exact (Kd.C_below HR0.out HB.out) | (with_reducible refine Kd.C_alloc ?_ _) | (with_reducible refine Kd.C_drewN ?_ _) | (with_reducible refine Kd.C_drew ?_))); (case side4 => exact HC0.out); rintro e w44 ⟨rfl, hb⟩; refine ⟨_, rfl, ?_⟩; have n0_ := Aside0.mk (below_step (by repeat (first | (with_reducible first | exact HB.out | apply below_alloc | apply pw_below_drewN | apply below_drew1) | exact HB.out)) hb); clear HB; have HB := n0_; clear n0_; (try clear hb); (try clear hb2); (try clear hk); (try clear hi)) | (go_at_call 19; (with_reducible refine (names_Within.calls _ _ l0 _ _ l1 true _ ?side1 ?side2 ?side3 ?side4 A7.out).mono ?_); (case side1 => repeat (first | exact (Kd.C_below HR0.out HB.out) | (with_reducible refine Kd.C_alloc ?_ _) | (with_reducible refine Kd.C_drewN ?_ _) | (with_reducible refine Kd.C_drew ?_))); (case side2 => exact HC0.out); (case side3 => repeat (first | exact (Kd.C_below HR1.out HB.out) | (with_reducible refine Kd.C_alloc ?_ _) | (with_reducible refine Kd.C_drewN ?_ _) | (with_reducible refine Kd.C_drew ?_))); (case side4 => exact HC1.out); rintro e w45 ⟨rfl, hb⟩; have n0_ := Aside0.mk (below_step (by repeat (first | (with_reducible first | exact HB.out | apply below_alloc | apply pw_below_drewN | apply below_drew1) | exact HB.out)) hb); clear HB; have HB := n0_; clear n0_; (try clear hb); (try clear hb2); (try clear hk); (try clear hi)) | (go_at_call 19; (with_reducible refine (names_Within.calls _ _ l1 _ _ l2 false _ ?side1 ?side2 ?side3 ?side4 A9.out).mono ?_); (case side1 => repeat (first | exact (Kd.C_below HR1.out HB.out) | (with_reducible refine Kd.C_alloc ?_ _) | (with_reducible refine Kd.C_drewN ?_ _) | (with_reducible refine Kd.C_drew ?_))); (case side2 => exact HC1.out); (case side3 => repeat (first | exact (Kd.C_below HR2.out HB.out) | (with_reducible refine Kd.C_alloc ?_ _) | (with_reducible refine Kd.C_drewN ?_ _) | (with_reducible refine Kd.C_drew ?_))); (case side4 => exact HC2.out); rintro e w46 ⟨rfl, hb⟩; have n0_ := Aside0.mk (below_step (by repeat (first | (with_reducible first | exact HB.out | apply below_alloc | apply pw_below_drewN | apply below_drew1) | exact HB.out)) hb); clear HB; have HB := n0_; clear n0_; (try clear hb); (try clear hb2); (try clear hk); (try clear hi)) | (go_at_call 19; (with_reducible refine (names_Within.calls _ _ l0 _ _ l1 true _ ?side1 ?side2 ?side3 ?side4 A39.out).mono ?_); (case side1 => repeat (first | exact (Kd.C_below HR0.out HB.out) | (with_reducible refine Kd.C_alloc ?_ _) | (with_reducible refine Kd.C_drewN ?_ _) | (with_reducible refine Kd.C_drew ?_))); (case side2 => exact HC0.out); (case side3 => repeat (first | exact (Kd.C_below HR1.out HB.out) | (with_reducible refine Kd.C_alloc ?_ _) | (with_reducible refine Kd.C_drewN ?_ _) | (with_reducible refine Kd.C_drew ?_))); (case side4 => exact HC1.out); rintro e w47 ⟨rfl, hb⟩; have n0_ := Aside0.mk (below_step (by repeat (first | (with_reducible first | exact HB.out | apply below_alloc | apply pw_below_drewN | apply below_drew1) | exact HB.out)) hb); clear HB; have HB := n0_; clear n0_; (try clear hb); (try clear hb2); (try clear hk); (try clear hi)) | (go_at_call 19; (with_reducible refine (names_Within.calls _ _ l1 _ _ l0 true _ ?side1 ?side2 ?side3 ?side4 A41.out).mono ?_); (case side1 => repeat (first | exact (Kd.C_below HR1.out HB.out) | (with_reducible refine Kd.C_alloc ?_ _) | (with_reducible refine Kd.C_drewN ?_ _) | (with_reducible refine Kd.C_drew ?_))); (case side2 => exact HC1.out); (case side3 => repeat (first | exact (Kd.C_below HR0.out HB.out) | (with_reducible refine Kd.C_alloc ?_ _) | (with_reducible refine Kd.C_drewN ?_ _) | (with_reducible refine Kd.C_drew ?_))); (case side4 => exact HC0.out); rintro e w48 ⟨rfl, hb⟩; have n0_ := Aside0.mk (below_step (by repeat (first | (with_reducible first | exact HB.out | apply below_alloc | apply pw_below_drewN | apply below_drew1) | exact HB.out)) hb); clear HB; have HB := n0_; clear n0_; (try clear hb); (try clear hb2); (try clear hk); (try clear hi)) | (go_at_call 17; (with_reducible refine (pumicelaw02_Texts.calls k _ _ l0 _ _ l1 t254 _ ?side1 ?side2 ?side3 ?side4 A43.out).mono ?_); (case side1 => repeat (first | exact (Kd.C_below HR0.out HB.out) | (with_reducible refine Kd.C_alloc ?_ _) | (with_reducible refine Kd.C_drewN ?_ _) | (with_reducible refine Kd.C_drew ?_))); (case side2 => exact HC0.out); (case side3 => repeat (first | exact (Kd.C_below HR1.out HB.out) | (with_reducible refine Kd.C_alloc ?_ _) | (with_reducible refine Kd.C_drewN ?_ _) | (with_reducible refine Kd.C_drew ?_))); (case side4 => exact HC1.out); rintro e w' ⟨rfl, ⟨nd, rfl⟩⟩))
              go_meet
              case rel => exact ⟨_, (!t254), (by first | rfl | (simp; done) | (simp [*]; done) | (simp [wrap64]; done)), H', ⟨by first | omega | exact Nat.le_refl _⟩, ⟨by repeat (first | (with_reducible first | exact HB.out | apply below_alloc | apply pw_below_drewN | apply below_drew1) | exact HB.out)⟩⟩
            · replace c42 := Bool.eq_false_iff.mpr c42
              subst c42
              have H1 : (pumicelaw02_NamesWithin.j0 k l0 l1 false) = some r := by rw [if_neg (show ¬ (false = true) by decide)] at H; exact H
              clear H
              have H := H1
              clear H1
              have H' := Aside0.mk H
              clear H
              go_wp2_with (first | ((with_reducible refine gate_callee (f := 19) rfl ?_); refine goesL_ (some 10) rfl rfl Tryd.func19 (by kernel_rfl) rfl #[.slice A0 l0.length c0, .slice A0 l0.length c0] rfl (by (try simp only [List.map_toArray, List.map_cons, List.map_nil]); first | done | rfl | (simp only [List.length_drop, List.length_take]; rfl)) ?_; (with_reducible refine (names_Within.calls _ _ l0 _ _ l0 true _ ?side1 ?side2 ?side3 ?side4 A5.out).mono ?_); (case side1 => repeat (first | exact (Kd.C_below HR0.out HB.out) | (with_reducible refine Kd.C_alloc ?_ _) | (with_reducible refine Kd.C_drewN ?_ _) | (with_reducible refine Kd.C_drew ?_))); (case side2 => exact HC0.out); (case side3 => repeat (first | exact (Kd.C_below HR0.out HB.out) | (with_reducible refine Kd.C_alloc ?_ _) | (with_reducible refine Kd.C_drewN ?_ _) | (with_reducible refine Kd.C_drew ?_))); (case side4 => exact HC0.out); rintro e w49 ⟨rfl, hb⟩; refine ⟨_, rfl, ?_⟩; have n0_ := Aside0.mk (below_step (by repeat (first | (with_reducible first | exact HB.out | apply below_alloc | apply pw_below_drewN | apply below_drew1) | exact HB.out)) hb); clear HB; have HB := n0_; clear n0_; (try clear hb); (try clear hb2); (try clear hk); (try clear hi)) | (go_at_call 19; (with_reducible refine (names_Within.calls _ _ l0 _ _ l1 true _ ?side1 ?side2 ?side3 ?side4 A7.out).mono ?_); (case side1 => repeat (first | exact (Kd.C_below HR0.out HB.out) | (with_reducible refine Kd.C_alloc ?_ _) | (with_reducible refine Kd.C_drewN ?_ _) | (with_reducible refine Kd.C_drew ?_))); (case side2 => exact HC0.out); (case side3 => repeat (first | exact (Kd.C_below HR1.out HB.out) | (with_reducible refine Kd.C_alloc ?_ _) | (with_reducible refine Kd.C_drewN ?_ _) | (with_reducible refine Kd.C_drew ?_))); (case side4 => exact HC1.out); rintro e w50 ⟨rfl, hb⟩; have n0_ := Aside0.mk (below_step (by repeat (first | (with_reducible first | exact HB.out | apply below_alloc | apply pw_below_drewN | apply below_drew1) | exact HB.out)) hb); clear HB; have HB := n0_; clear n0_; (try clear hb); (try clear hb2); (try clear hk); (try clear hi)) | (go_at_call 19; (with_reducible refine (names_Within.calls _ _ l1 _ _ l2 false _ ?side1 ?side2 ?side3 ?side4 A9.out).mono ?_); (case side1 => repeat (first | exact (Kd.C_below HR1.out HB.out) | (with_reducible refine Kd.C_alloc ?_ _) | (with_reducible refine Kd.C_drewN ?_ _) | (with_reducible refine Kd.C_drew ?_))); (case side2 => exact HC1.out); (case side3 => repeat (first | exact (Kd.C_below HR2.out HB.out) | (with_reducible refine Kd.C_alloc ?_ _) | (with_reducible refine Kd.C_drewN ?_ _) | (with_reducible refine Kd.C_drew ?_))); (case side4 => exact HC2.out); rintro e w51 ⟨rfl, hb⟩; have n0_ := Aside0.mk (below_step (by repeat (first | (with_reducible first | exact HB.out | apply below_alloc | apply pw_below_drewN | apply below_drew1) | exact HB.out)) hb); clear HB; have HB := n0_; clear n0_; (try clear hb); (try clear hb2); (try clear hk); (try clear hi)) | (go_at_call 19; (with_reducible refine (names_Within.calls _ _ l0 _ _ l1 true _ ?side1 ?side2 ?side3 ?side4 A39.out).mono ?_); (case side1 => repeat (first | exact (Kd.C_below HR0.out HB.out) | (with_reducible refine Kd.C_alloc ?_ _) | (with_reducible refine Kd.C_drewN ?_ _) | (with_reducible refine Kd.C_drew ?_))); (case side2 => exact HC0.out); (case side3 => repeat (first | exact (Kd.C_below HR1.out HB.out) | (with_reducible refine Kd.C_alloc ?_ _) | (with_reducible refine Kd.C_drewN ?_ _) | (with_reducible refine Kd.C_drew ?_))); (case side4 => exact HC1.out); rintro e w52 ⟨rfl, hb⟩; have n0_ := Aside0.mk (below_step (by repeat (first | (with_reducible first | exact HB.out | apply below_alloc | apply pw_below_drewN | apply below_drew1) | exact HB.out)) hb); clear HB; have HB := n0_; clear n0_; (try clear hb); (try clear hb2); (try clear hk); (try clear hi)) | (go_at_call 19; (with_reducible refine (names_Within.calls _ _ l1 _ _ l0 false _ ?side1 ?side2 ?side3 ?side4 A41.out).mono ?_); (case side1 => repeat (first | exact (Kd.C_below HR1.out HB.out) | (with_reducible refine Kd.C_alloc ?_ _) | (with_reducible refine Kd.C_drewN ?_ _) | (with_reducible refine Kd.C_drew ?_))); (case side2 => exact HC1.out); (case side3 => repeat (first | exact (Kd.C_below HR0.out HB.out) | (with_reducible refine Kd.C_alloc ?_ _) | (with_reducible refine Kd.C_drewN ?_ _) | (with_reducible refine Kd.C_drew ?_))); (case side4 => exact HC0.out); rintro e w53 ⟨rfl, hb⟩; have n0_ := Aside0.mk (below_step (by repeat (first | (with_reducible first | exact HB.out | apply below_alloc | apply pw_below_drewN | apply below_drew1) | exact HB.out)) hb); clear HB; have HB := n0_; clear n0_; (try clear hb); (try clear hb2); (try clear hk); (try clear hi)))
              go_meet
              case rel => exact ⟨_, (false), (by first | rfl | (simp; done) | (simp [*]; done) | (simp [wrap64]; done)), H', ⟨by first | omega | exact Nat.le_refl _⟩, ⟨by repeat (first | (with_reducible first | exact HB.out | apply below_alloc | apply pw_below_drewN | apply below_drew1) | exact HB.out)⟩⟩
          · replace c40 := Bool.eq_false_iff.mpr c40
            subst c40
            have H1 : (pumicelaw02_NamesWithin.j0 k l0 l1 false) = some r := by rw [if_neg (show ¬ (false = true) by decide)] at H; exact H
            clear H
            have H := H1
            clear H1
            have H' := Aside0.mk H
            clear H
            exact absurd (A7.out.symm.trans A39.out) (by simp)
      · replace c8 := Bool.eq_false_iff.mpr c8
        subst c8
        have H1 : ((names_Within.f l0 l1).bind fun t255 => (if t255 = true then ((names_Within.f l1 l0).bind fun t256 => (if t256 = true then ((pumicelaw02_Texts.f k l0 l1).bind fun t257 => (pumicelaw02_NamesWithin.j0 k l0 l1 (!t257))) else (pumicelaw02_NamesWithin.j0 k l0 l1 false))) else (pumicelaw02_NamesWithin.j0 k l0 l1 false))) = some r := by rw [if_neg (show ¬ (false = true) by decide)] at H; exact H
        clear H
        have H := H1
        clear H1
        replace H := Option.bind_eq_some_iff.mp H
        obtain ⟨t255, A580, H⟩ := H
        replace H : (if t255 = true then ((names_Within.f l1 l0).bind fun t256 => (if t256 = true then ((pumicelaw02_Texts.f k l0 l1).bind fun t257 => (pumicelaw02_NamesWithin.j0 k l0 l1 (!t257))) else (pumicelaw02_NamesWithin.j0 k l0 l1 false))) else (pumicelaw02_NamesWithin.j0 k l0 l1 false)) = some r := H
        have A58 := Aside0.mk A580
        clear A580
        by_cases c59 : t255 = true
        · subst c59
          have H1 : ((names_Within.f l1 l0).bind fun t256 => (if t256 = true then ((pumicelaw02_Texts.f k l0 l1).bind fun t257 => (pumicelaw02_NamesWithin.j0 k l0 l1 (!t257))) else (pumicelaw02_NamesWithin.j0 k l0 l1 false))) = some r := by rw [if_pos rfl] at H; exact H
          clear H
          have H := H1
          clear H1
          replace H := Option.bind_eq_some_iff.mp H
          obtain ⟨t256, A600, H⟩ := H
          replace H : (if t256 = true then ((pumicelaw02_Texts.f k l0 l1).bind fun t257 => (pumicelaw02_NamesWithin.j0 k l0 l1 (!t257))) else (pumicelaw02_NamesWithin.j0 k l0 l1 false)) = some r := H
          have A60 := Aside0.mk A600
          clear A600
          by_cases c61 : t256 = true
          · subst c61
            have H1 : ((pumicelaw02_Texts.f k l0 l1).bind fun t257 => (pumicelaw02_NamesWithin.j0 k l0 l1 (!t257))) = some r := by rw [if_pos rfl] at H; exact H
            clear H
            have H := H1
            clear H1
            replace H := Option.bind_eq_some_iff.mp H
            obtain ⟨t257, A620, H⟩ := H
            replace H : (pumicelaw02_NamesWithin.j0 k l0 l1 (!t257)) = some r := H
            have A62 := Aside0.mk A620
            clear A620
            have H' := Aside0.mk H
            clear H
            exact absurd (A58.out.symm.trans A7.out) (by simp)
          · replace c61 := Bool.eq_false_iff.mpr c61
            subst c61
            have H1 : (pumicelaw02_NamesWithin.j0 k l0 l1 false) = some r := by rw [if_neg (show ¬ (false = true) by decide)] at H; exact H
            clear H
            have H := H1
            clear H1
            have H' := Aside0.mk H
            clear H
            exact absurd (A58.out.symm.trans A7.out) (by simp)
        · replace c59 := Bool.eq_false_iff.mpr c59
          subst c59
          have H1 : (pumicelaw02_NamesWithin.j0 k l0 l1 false) = some r := by rw [if_neg (show ¬ (false = true) by decide)] at H; exact H
          clear H
          have H := H1
          clear H1
          have H' := Aside0.mk H
          clear H
          go_wp2_with (first | ((with_reducible refine gate_callee (f := 19) rfl ?_); refine goesL_ (some 10) rfl rfl Tryd.func19 (by kernel_rfl) rfl #[.slice A0 l0.length c0, .slice A0 l0.length c0] rfl (by (try simp only [List.map_toArray, List.map_cons, List.map_nil]); first | done | rfl | (simp only [List.length_drop, List.length_take]; rfl)) ?_; (with_reducible refine (names_Within.calls _ _ l0 _ _ l0 true _ ?side1 ?side2 ?side3 ?side4 A5.out).mono ?_); (case side1 => repeat (first | exact (Kd.C_below HR0.out HB.out) | (with_reducible refine Kd.C_alloc ?_ _) | (with_reducible refine Kd.C_drewN ?_ _) | (with_reducible refine Kd.C_drew ?_))); (case side2 => exact HC0.out); (case side3 => repeat (first | exact (Kd.C_below HR0.out HB.out) | (with_reducible refine Kd.C_alloc ?_ _) | (with_reducible refine Kd.C_drewN ?_ _) | (with_reducible refine Kd.C_drew ?_))); (case side4 => exact HC0.out); rintro e w71 ⟨rfl, hb⟩; refine ⟨_, rfl, ?_⟩; have n0_ := Aside0.mk (below_step (by repeat (first | (with_reducible first | exact HB.out | apply below_alloc | apply pw_below_drewN | apply below_drew1) | exact HB.out)) hb); clear HB; have HB := n0_; clear n0_; (try clear hb); (try clear hb2); (try clear hk); (try clear hi)) | (go_at_call 19; (with_reducible refine (names_Within.calls _ _ l0 _ _ l1 false _ ?side1 ?side2 ?side3 ?side4 A7.out).mono ?_); (case side1 => repeat (first | exact (Kd.C_below HR0.out HB.out) | (with_reducible refine Kd.C_alloc ?_ _) | (with_reducible refine Kd.C_drewN ?_ _) | (with_reducible refine Kd.C_drew ?_))); (case side2 => exact HC0.out); (case side3 => repeat (first | exact (Kd.C_below HR1.out HB.out) | (with_reducible refine Kd.C_alloc ?_ _) | (with_reducible refine Kd.C_drewN ?_ _) | (with_reducible refine Kd.C_drew ?_))); (case side4 => exact HC1.out); rintro e w72 ⟨rfl, hb⟩; have n0_ := Aside0.mk (below_step (by repeat (first | (with_reducible first | exact HB.out | apply below_alloc | apply pw_below_drewN | apply below_drew1) | exact HB.out)) hb); clear HB; have HB := n0_; clear n0_; (try clear hb); (try clear hb2); (try clear hk); (try clear hi)) | (go_at_call 19; (with_reducible refine (names_Within.calls _ _ l0 _ _ l1 false _ ?side1 ?side2 ?side3 ?side4 A58.out).mono ?_); (case side1 => repeat (first | exact (Kd.C_below HR0.out HB.out) | (with_reducible refine Kd.C_alloc ?_ _) | (with_reducible refine Kd.C_drewN ?_ _) | (with_reducible refine Kd.C_drew ?_))); (case side2 => exact HC0.out); (case side3 => repeat (first | exact (Kd.C_below HR1.out HB.out) | (with_reducible refine Kd.C_alloc ?_ _) | (with_reducible refine Kd.C_drewN ?_ _) | (with_reducible refine Kd.C_drew ?_))); (case side4 => exact HC1.out); rintro e w73 ⟨rfl, hb⟩; have n0_ := Aside0.mk (below_step (by repeat (first | (with_reducible first | exact HB.out | apply below_alloc | apply pw_below_drewN | apply below_drew1) | exact HB.out)) hb); clear HB; have HB := n0_; clear n0_; (try clear hb); (try clear hb2); (try clear hk); (try clear hi)))
          go_meet
          case rel => exact ⟨_, (false), (by first | rfl | (simp; done) | (simp [*]; done) | (simp [wrap64]; done)), H', ⟨by first | omega | exact Nat.le_refl _⟩, ⟨by repeat (first | (with_reducible first | exact HB.out | apply below_alloc | apply pw_below_drewN | apply below_drew1) | exact HB.out)⟩⟩
    · replace c6 := Bool.eq_false_iff.mpr c6
      subst c6
      have H1 : (pumicelaw02_NamesWithin.j0 k l0 l1 true) = some r := by rw [if_neg (show ¬ (false = true) by decide)] at H; exact H
      clear H
      have H := H1
      clear H1
      have H' := Aside0.mk H
      clear H
      go_wp2_with (first | ((with_reducible refine gate_callee (f := 19) rfl ?_); refine goesL_ (some 10) rfl rfl Tryd.func19 (by kernel_rfl) rfl #[.slice A0 l0.length c0, .slice A0 l0.length c0] rfl (by (try simp only [List.map_toArray, List.map_cons, List.map_nil]); first | done | rfl | (simp only [List.length_drop, List.length_take]; rfl)) ?_; (with_reducible refine (names_Within.calls _ _ l0 _ _ l0 false _ ?side1 ?side2 ?side3 ?side4 A5.out).mono ?_); (case side1 => repeat (first | exact (Kd.C_below HR0.out HB.out) | (with_reducible refine Kd.C_alloc ?_ _) | (with_reducible refine Kd.C_drewN ?_ _) | (with_reducible refine Kd.C_drew ?_))); (case side2 => exact HC0.out); (case side3 => repeat (first | exact (Kd.C_below HR0.out HB.out) | (with_reducible refine Kd.C_alloc ?_ _) | (with_reducible refine Kd.C_drewN ?_ _) | (with_reducible refine Kd.C_drew ?_))); (case side4 => exact HC0.out); rintro e w74 ⟨rfl, hb⟩; refine ⟨_, rfl, ?_⟩; have n0_ := Aside0.mk (below_step (by repeat (first | (with_reducible first | exact HB.out | apply below_alloc | apply pw_below_drewN | apply below_drew1) | exact HB.out)) hb); clear HB; have HB := n0_; clear n0_; (try clear hb); (try clear hb2); (try clear hk); (try clear hi)))
      go_meet
      case rel => exact ⟨_, (true), (by first | rfl | (simp; done) | (simp [*]; done) | (simp [wrap64]; done)), H', ⟨by first | omega | exact Nat.le_refl _⟩, ⟨by repeat (first | (with_reducible first | exact HB.out | apply below_alloc | apply pw_below_drewN | apply below_drew1) | exact HB.out)⟩⟩
  case rest =>
    clear HC4
    try clear c1
    try clear c2
    try clear p2
    try clear c4
    try clear c5
    try clear c6
    try clear p6
    try clear c8
    try clear c10
    try clear c12
    try clear c14
    try clear c16
    try clear c19
    try clear c40
    try clear c42
    try clear c59
    try clear c61
    try clear p64
    obtain ⟨kq, x43_3, rfl, HA, HJ3, HB⟩ := hcut
    cases kq with
    | zero => exact absurd HA.out (by simp [pumicelaw02_NamesWithin.j0])
    | succ kj3 =>
      have H := HA.out
      clear HA
      simp only [pumicelaw02_NamesWithin.j0] at H
      by_cases c75 : x43_3 = true
      · subst c75
        have H1 : (none) = some r := by rw [if_pos rfl] at H; exact H
        clear H
        have H := H1
        clear H1
        exact absurd H (by simp)
      · replace c75 := Bool.eq_false_iff.mpr c75
        subst c75
        have H1 : ((some (([] : List ByteArray) : List ByteArray)).bind fun y258 => (if y258.length + l0.length < 8796093022208 then ((some (y258 ++ l0 : List ByteArray)).bind fun y261 => (if y261.length + l1.length < 8796093022208 then ((names_Within.f (y261 ++ l1) l0).bind fun t267 => (if t267 = true then ((pumicelaw02_alive.f kj3).bind fun t268 => (some t268)) else (none))) else (none))) else (none))) = some r := by rw [if_neg (show ¬ (false = true) by decide)] at H; exact H
        clear H
        have H := H1
        clear H1
        obtain ⟨y258, hy258⟩ : ∃ y_ : List ByteArray, y_ = (([] : List ByteArray)) := ⟨_, rfl⟩
        replace H : (if y258.length + l0.length < 8796093022208 then ((some (y258 ++ l0 : List ByteArray)).bind fun y261 => (if y261.length + l1.length < 8796093022208 then ((names_Within.f (y261 ++ l1) l0).bind fun t267 => (if t267 = true then ((pumicelaw02_alive.f kj3).bind fun t268 => (some t268)) else (none))) else (none))) else (none)) = some r := by first | (rw [hy258]; with_reducible exact H) | (have H2_ := (Option.bind_some _ _).symm.trans H; rw [hy258]; with_reducible exact H2_) | (have H2_ := (Option.bind_some _ _).symm.trans H; with_reducible exact H2_) | with_reducible exact H | (rw [hy258]; exact H) | exact H
        have Ny258 := Aside0.mk hy258
        clear hy258
        by_cases c76 : y258.length + l0.length < 8796093022208
        · rw [if_pos c76] at H
          have LMc76 := Aside0.mk c76
          clear c76
          obtain ⟨y261, hy261⟩ : ∃ y_ : List ByteArray, y_ = (y258 ++ l0) := ⟨_, rfl⟩
          replace H : (if y261.length + l1.length < 8796093022208 then ((names_Within.f (y261 ++ l1) l0).bind fun t267 => (if t267 = true then ((pumicelaw02_alive.f kj3).bind fun t268 => (some t268)) else (none))) else (none)) = some r := by first | (rw [hy261]; with_reducible exact H) | (have H2_ := (Option.bind_some _ _).symm.trans H; rw [hy261]; with_reducible exact H2_) | (have H2_ := (Option.bind_some _ _).symm.trans H; with_reducible exact H2_) | with_reducible exact H | (rw [hy261]; exact H) | exact H
          have Ny261 := Aside0.mk hy261
          clear hy261
          by_cases c77 : y261.length + l1.length < 8796093022208
          · rw [if_pos c77] at H
            have LMc77 := Aside0.mk c77
            clear c77
            obtain ⟨y264, hy264⟩ : ∃ y_ : List ByteArray, y_ = (y261 ++ l1) := ⟨_, rfl⟩
            replace H : ((names_Within.f y264 l0).bind fun t267 => (if t267 = true then ((pumicelaw02_alive.f kj3).bind fun t268 => (some t268)) else (none))) = some r := by first | (rw [hy264]; with_reducible exact H) | (have H2_ := (Option.bind_some _ _).symm.trans H; rw [hy264]; with_reducible exact H2_) | (have H2_ := (Option.bind_some _ _).symm.trans H; with_reducible exact H2_) | with_reducible exact H | (rw [hy264]; exact H) | exact H
            have Ny264 := Aside0.mk hy264
            clear hy264
            replace H := Option.bind_eq_some_iff.mp H
            obtain ⟨t267, A780, H⟩ := H
            replace H : (if t267 = true then ((pumicelaw02_alive.f kj3).bind fun t268 => (some t268)) else (none)) = some r := H
            have A78 := Aside0.mk A780
            clear A780
            by_cases c79 : t267 = true
            · subst c79
              have H1 : ((pumicelaw02_alive.f kj3).bind fun t268 => (some t268)) = some r := by rw [if_pos rfl] at H; exact H
              clear H
              have H := H1
              clear H1
              replace H := Option.bind_eq_some_iff.mp H
              obtain ⟨t268, A800, H⟩ := H
              replace H : (some t268) = some r := H
              have A80 := Aside0.mk A800
              clear A800
              obtain rfl := Option.some.inj H
              go_wp2_with (first | ((with_reducible refine gate_dst (N := 44) rfl ?_); refine Kd.R_lit Kd.string _ 9 ?hg (N := 44) ?hd (xs := ([] : List ByteArray)) (inner := []) (ok := fun _ => True) (okp := fun _ => True) ?hr ?hp (fun _ hk => hk) trivial (Below.refl _ _) (Nat.le_refl _) (by simp) ?_; (case hd => rfl); (case hg => rfl); (case hr => first | (go_simp; done) | (go_simp; rfl)); (case hp => exact (Reps.none _ _)); intro v259 w81 ho82 hb hg_ hnew_; clear hg_ hnew_; (first | rw [← Ny258.out] at ho82 | (simp only [Int.reduceToNat] at ho82; rw [← Ny258.out] at ho82)); have n0_ := Aside0.mk (Kd.R_lower ho82 (below_size (by repeat (first | (with_reducible first | exact HB.out | apply below_alloc | apply pw_below_drewN | apply below_drew1) | exact HB.out)))); have n1_ := Aside0.mk (below_step (by repeat (first | (with_reducible first | exact HB.out | apply below_alloc | apply pw_below_drewN | apply below_drew1) | exact HB.out)) hb); clear HB; have HO260 := n0_; have HB := n1_; clear n0_ n1_; clear hb ho82) | ((with_reducible refine gate_builtin (b := .append) (xs := #[.tmp 44, .tmp 45]) rfl ?_); at_builtin; refine Kd.R_append_rows Kd.string (w0 := w) w.heap.size rfl (.tmp 44) (.tmp 45) 22 9 (.string ⟨#[]⟩) 16 rfl Tryd.underlying22 info9 rfl (by decide) (by omega) v259 y258 l0 _ _ _ (fun _ => True) (fun _ => False) rfl rfl ?aO ?aR (fun _ _ h => h) (fun _ h => h.elim) ?aF ?aB ?aS ?aL ?_; (case aR => repeat (first | exact (Kd.C_below HR0.out HB.out) | (with_reducible refine Kd.C_alloc ?_ _) | (with_reducible refine Kd.C_drewN ?_ _) | (with_reducible refine Kd.C_drew ?_))); (case aB => exact (by repeat (first | (with_reducible first | exact HB.out | apply below_alloc | apply pw_below_drewN | apply below_drew1) | exact HB.out))); (case aF => exact (fun _ _ => trivial)); (case aO => exact (by (with_reducible repeat (first | apply Kd.R_alloc | apply Kd.R_drewN | apply Kd.R_drew)); exact HO260.out)); (case aS => exact (below_size (by repeat (first | (with_reducible first | exact HB.out | apply below_alloc | apply pw_below_drewN | apply below_drew1) | exact HB.out)))); (case aL => have := LMc76.out; omega); intro v262 w83 ho hb hg hat; rw [← Ny261.out] at ho; have n0_ := Aside0.mk (hb); have n1_ := Aside0.mk (ho); clear HB; clear HO260; have HB := n0_; have HO263 := n1_; clear n0_ n1_; clear ho hb hg hat) | ((with_reducible refine gate_builtin (b := .append) (xs := #[.tmp 46, .tmp 47]) rfl ?_); at_builtin; refine Kd.R_append_rows Kd.string (w0 := w) w.heap.size rfl (.tmp 46) (.tmp 47) 22 9 (.string ⟨#[]⟩) 16 rfl Tryd.underlying22 info9 rfl (by decide) (by omega) v262 y261 l1 _ _ _ (fun _ => True) (fun _ => False) rfl rfl ?aO ?aR (fun _ _ h => h) (fun _ h => h.elim) ?aF ?aB ?aS ?aL ?_; (case aR => repeat (first | exact (Kd.C_below HR1.out HB.out) | (with_reducible refine Kd.C_alloc ?_ _) | (with_reducible refine Kd.C_drewN ?_ _) | (with_reducible refine Kd.C_drew ?_))); (case aB => exact (by repeat (first | (with_reducible first | exact HB.out | apply below_alloc | apply pw_below_drewN | apply below_drew1) | exact HB.out))); (case aF => exact (fun _ _ => trivial)); (case aO => exact (by (with_reducible repeat (first | apply Kd.R_alloc | apply Kd.R_drewN | apply Kd.R_drew)); exact HO263.out)); (case aS => exact (below_size (by repeat (first | (with_reducible first | exact HB.out | apply below_alloc | apply pw_below_drewN | apply below_drew1) | exact HB.out)))); (case aL => have := LMc77.out; omega); intro v265 w84 ho hb hg hat; rw [← Ny264.out] at ho; have n0_ := Aside0.mk (hb); have n1_ := Aside0.mk (ho); clear HB; clear HO263; have HB := n0_; have HO266 := n1_; clear n0_ n1_; clear ho hb hg hat; obtain ⟨Ao85, co85, eo85⟩ := Kd.R_slice HO266.out; subst eo85) | ((with_reducible refine gate_callee (f := 19) rfl ?_); refine goesL_ (some 51) rfl rfl Tryd.func19 (by kernel_rfl) rfl #[.slice Ao85 y264.length co85, .slice A0 l0.length c0] rfl (by (try simp only [List.map_toArray, List.map_cons, List.map_nil]); first | done | rfl | (simp only [List.length_drop, List.length_take]; rfl)) ?_; (with_reducible refine (names_Within.calls _ _ y264 _ _ l0 true _ ?side1 ?side2 ?side3 ?side4 A78.out).mono ?_); (case side1 => repeat (first | exact (Kd.R_reads' HO266.out).2.2 | (with_reducible refine Kd.C_alloc ?_ _) | (with_reducible refine Kd.C_drewN ?_ _) | (with_reducible refine Kd.C_drew ?_))); (case side2 => exact (Kd.R_reads' HO266.out).2.1); (case side3 => repeat (first | exact (Kd.C_below HR0.out HB.out) | (with_reducible refine Kd.C_alloc ?_ _) | (with_reducible refine Kd.C_drewN ?_ _) | (with_reducible refine Kd.C_drew ?_))); (case side4 => exact HC0.out); rintro e w86 ⟨rfl, hb⟩; refine ⟨_, rfl, ?_⟩; have n0_ := Aside0.mk (Kd.R_below (by (with_reducible repeat (first | apply Kd.R_alloc | apply Kd.R_drewN | apply Kd.R_drew)); exact HO266.out) hb); have n1_ := Aside0.mk (below_step (by repeat (first | (with_reducible first | exact HB.out | apply below_alloc | apply pw_below_drewN | apply below_drew1) | exact HB.out)) hb); clear HO266; clear HB; have HO266 := n0_; have HB := n1_; clear n0_ n1_; (try clear hb); (try clear hb2); (try clear hk); (try clear hi)) | (go_at_call 15; (with_reducible refine (pumicelaw02_alive.calls kj3  t268 _ A80.out).mono ?_); rintro e w87 ⟨rfl, hb⟩; have n0_ := Aside0.mk (Kd.R_below (by (with_reducible repeat (first | apply Kd.R_alloc | apply Kd.R_drewN | apply Kd.R_drew)); exact HO266.out) hb); have n1_ := Aside0.mk (below_step (by repeat (first | (with_reducible first | exact HB.out | apply below_alloc | apply pw_below_drewN | apply below_drew1) | exact HB.out)) hb); clear HO266; clear HB; have HO266 := n0_; have HB := n1_; clear n0_ n1_; (try clear hb); (try clear hb2); (try clear hk); (try clear hi)))
              go_ret
              exact ⟨by first | rfl | exact isEmpty_bne_ _ | (simp [errW_none, errW_some] <;> rfl) | (simp [*, errW_none, errW_some] <;> rfl), by repeat (first | (with_reducible first | exact HB.out | apply below_alloc | apply pw_below_drewN | apply below_drew1) | exact HB.out)⟩
            · replace c79 := Bool.eq_false_iff.mpr c79
              subst c79
              have H1 : (none) = some r := by rw [if_neg (show ¬ (false = true) by decide)] at H; exact H
              clear H
              have H := H1
              clear H1
              exact absurd H (by simp)
          · rw [if_neg c77] at H
            exact absurd H (by simp)
        · rw [if_neg c76] at H
          exact absurd H (by simp)

end Go.Proofs.YthcooheghekplaaDoor.Q
