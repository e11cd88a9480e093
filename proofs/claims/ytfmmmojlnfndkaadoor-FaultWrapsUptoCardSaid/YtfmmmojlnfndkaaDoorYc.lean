/- Q6, A1, A2, F0, F1, F2, F3, F4, F5, Z0, HZ1, F6, G1, G2, Z1, F7 -/
import Derived.Lib.Strings
import Derived.Test.YtfmmmojlnfndkaaDoorProg
import Derived.Below
import Derived.Deep.Draws
import Derived.Deep.AppendLies
import Derived.Maps.AppendAt
import Derived.OwnWalk
import Derived.Laws.BytesArg
import Derived.Laws.MakeOwn
import Derived.Laws.OwnMore
import Derived.Deep.OwnRows
import Derived.Tactics
import Derived.Lib.ConvBytes
import Derived.Laws.Slices
import Derived.WalkKit
import Derived.KernelRfl
import Derived.RowKit3
import Derived.Deep.LoopGhost
import Derived.Deep.QuietTactic
import Derived.BigQuiet
import Derived.WideLaws
import Derived.Deep.DeepCutAuto
import Derived.Deep.CutBlock
import Derived.Deep.RegionHeld3
import Derived.Laws.Rows
import Derived.Lib.AppendStr
import Derived.ArgAppend
import Derived.Laws.IdiomCopy
import Derived.OrdersHeld
import Derived.Laws.BitsLemmas
import Derived.RowKit
import Derived.Deep.RegionLaw
import Derived.Test.YtfmmmojlnfndkaaDoorYa
import Derived.Test.YtfmmmojlnfndkaaDoorYb
namespace Go.Proofs.YtfmmmojlnfndkaaDoor.Q
open Go.RowKit Go.Proofs.YtfmmmojlnfndkaaDoorW.PrintWords Go.Proofs.YtfmmmojlnfndkaaDoorW.PrintLast Go.Proofs.YtfmmmojlnfndkaaDoorW.PrintMore
attribute [local go_sem] max2_int min2_int max_two min_two max_three min_three max_four min_four   -- for this text's walks alone
set_option linter.unusedVariables false
set_option linter.unusedSimpArgs false

/-! ### pumicelaw04_FaultWorse: function 7 -/
def pumicelaw04_FaultWorse.f (k : Nat) (a0 : Int) (a1 : Int) (a2 : Int) : Option (Bool) := (fault_Worse.f k a0 a1).bind fun t136 => ((fault_Worse.f k a1 a0).bind fun t137 => (if t136 = t137 then (if t136 = a0 then ((fault_Worse.f k t136 a2).bind fun t138 => ((fault_Worse.f k a1 a2).bind fun t139 => ((fault_Worse.f k a0 t139).bind fun t140 => (if t138 = t140 then ((fault_Worse.f k a0 0).bind fun t141 => (if t141 = a0 then (if t136 = 0 then (if a0 = 0 then (if a1 = 0 then ((alive.f).bind fun t142 => (some t142)) else (none)) else (none)) else ((alive.f).bind fun t143 => (some t143))) else (none))) else (none))))) else (if t136 = a1 then ((fault_Worse.f k t136 a2).bind fun t144 => ((fault_Worse.f k a1 a2).bind fun t145 => ((fault_Worse.f k a0 t145).bind fun t146 => (if t144 = t146 then ((fault_Worse.f k a0 0).bind fun t147 => (if t147 = a0 then (if t136 = 0 then (if a0 = 0 then (if a1 = 0 then ((alive.f).bind fun t148 => (some t148)) else (none)) else (none)) else ((alive.f).bind fun t149 => (some t149))) else (none))) else (none))))) else (none))) else (none)))
theorem pumicelaw04_FaultWorse.mono : ∀ a0 a1 a2 k, LeO (pumicelaw04_FaultWorse.f k a0 a1 a2) (pumicelaw04_FaultWorse.f (k + 1) a0 a1 a2) := by
  intro a0 a1 a2 k
  unfold pumicelaw04_FaultWorse.f
  repeat' first
      | (with_reducible exact fault_Worse.mono _ _ _)
      | (with_reducible exact LeO.refl _)
      | (with_reducible exact LeO.none _)
      | (with_reducible refine LeO.ite ?_ ?_)
      | (with_reducible refine LeO.bind ?_ (fun _ => ?_))
      | exact fault_Worse.mono _ _ _
      | exact LeO.none _
      | refine LeO.ite ?_ ?_
      | refine LeO.bind ?_ (fun _ => ?_)
set_option maxHeartbeats 8000000 in
set_option maxRecDepth 100000 in
theorem pumicelaw04_FaultWorse.calls (k : Nat) (a0 : Int) (a1 : Int) (a2 : Int) (r : Bool) (w : World) (HW0 : As.Laid w) (h : pumicelaw04_FaultWorse.f k a0 a1 a2 = some r) :
    Calls Tryd.prog 7 #[.int .i64 a0, .int .i64 a1, .int .i64 a2] w fun e w' => e = .returned (.bool r) ∧ Below w.heap.size w w' := by
  have HB := Aside0.mk (Below.refl w.heap.size w)
  have HW := Aside0.mk HW0
  clear HW0
  have H : ((fault_Worse.f k a0 a1).bind fun t136 => ((fault_Worse.f k a1 a0).bind fun t137 => (if t136 = t137 then (if t136 = a0 then ((fault_Worse.f k t136 a2).bind fun t138 => ((fault_Worse.f k a1 a2).bind fun t139 => ((fault_Worse.f k a0 t139).bind fun t140 => (if t138 = t140 then ((fault_Worse.f k a0 0).bind fun t141 => (if t141 = a0 then (if t136 = 0 then (if a0 = 0 then (if a1 = 0 then ((alive.f).bind fun t142 => (some t142)) else (none)) else (none)) else ((alive.f).bind fun t143 => (some t143))) else (none))) else (none))))) else (if t136 = a1 then ((fault_Worse.f k t136 a2).bind fun t144 => ((fault_Worse.f k a1 a2).bind fun t145 => ((fault_Worse.f k a0 t145).bind fun t146 => (if t144 = t146 then ((fault_Worse.f k a0 0).bind fun t147 => (if t147 = a0 then (if t136 = 0 then (if a0 = 0 then (if a1 = 0 then ((alive.f).bind fun t148 => (some t148)) else (none)) else (none)) else ((alive.f).bind fun t149 => (some t149))) else (none))) else (none))))) else (none))) else (none)))) = some r := h
  clear h
  replace H := Option.bind_eq_some_iff.mp H
  obtain ⟨t136, A40, H⟩ := H
  replace H : ((fault_Worse.f k a1 a0).bind fun t137 => (if t136 = t137 then (if t136 = a0 then ((fault_Worse.f k t136 a2).bind fun t138 => ((fault_Worse.f k a1 a2).bind fun t139 => ((fault_Worse.f k a0 t139).bind fun t140 => (if t138 = t140 then ((fault_Worse.f k a0 0).bind fun t141 => (if t141 = a0 then (if t136 = 0 then (if a0 = 0 then (if a1 = 0 then ((alive.f).bind fun t142 => (some t142)) else (none)) else (none)) else ((alive.f).bind fun t143 => (some t143))) else (none))) else (none))))) else (if t136 = a1 then ((fault_Worse.f k t136 a2).bind fun t144 => ((fault_Worse.f k a1 a2).bind fun t145 => ((fault_Worse.f k a0 t145).bind fun t146 => (if t144 = t146 then ((fault_Worse.f k a0 0).bind fun t147 => (if t147 = a0 then (if t136 = 0 then (if a0 = 0 then (if a1 = 0 then ((alive.f).bind fun t148 => (some t148)) else (none)) else (none)) else ((alive.f).bind fun t149 => (some t149))) else (none))) else (none))))) else (none))) else (none))) = some r := H
  have A4 := Aside0.mk A40
  clear A40
  replace H := Option.bind_eq_some_iff.mp H
  obtain ⟨t137, A50, H⟩ := H
  replace H : (if t136 = t137 then (if t136 = a0 then ((fault_Worse.f k t136 a2).bind fun t138 => ((fault_Worse.f k a1 a2).bind fun t139 => ((fault_Worse.f k a0 t139).bind fun t140 => (if t138 = t140 then ((fault_Worse.f k a0 0).bind fun t141 => (if t141 = a0 then (if t136 = 0 then (if a0 = 0 then (if a1 = 0 then ((alive.f).bind fun t142 => (some t142)) else (none)) else (none)) else ((alive.f).bind fun t143 => (some t143))) else (none))) else (none))))) else (if t136 = a1 then ((fault_Worse.f k t136 a2).bind fun t144 => ((fault_Worse.f k a1 a2).bind fun t145 => ((fault_Worse.f k a0 t145).bind fun t146 => (if t144 = t146 then ((fault_Worse.f k a0 0).bind fun t147 => (if t147 = a0 then (if t136 = 0 then (if a0 = 0 then (if a1 = 0 then ((alive.f).bind fun t148 => (some t148)) else (none)) else (none)) else ((alive.f).bind fun t149 => (some t149))) else (none))) else (none))))) else (none))) else (none)) = some r := H
  have A5 := Aside0.mk A50
  clear A50
  by_cases c6 : t136 = t137
  · rw [if_pos c6] at H
    have c6b0 : (t136 == t137) = true := beq_iff_eq.mpr c6
    have c6b1 : (t136 != t137) = false := bne_eq_false_iff_eq.mpr c6
    clear c6
    by_cases c7 : t136 = a0
    · rw [if_pos c7] at H
      have c7b0 : (t136 == a0) = true := beq_iff_eq.mpr c7
      have c7b1 : (t136 != a0) = false := bne_eq_false_iff_eq.mpr c7
      clear c7
      replace H := Option.bind_eq_some_iff.mp H
      obtain ⟨t138, A80, H⟩ := H
      replace H : ((fault_Worse.f k a1 a2).bind fun t139 => ((fault_Worse.f k a0 t139).bind fun t140 => (if t138 = t140 then ((fault_Worse.f k a0 0).bind fun t141 => (if t141 = a0 then (if t136 = 0 then (if a0 = 0 then (if a1 = 0 then ((alive.f).bind fun t142 => (some t142)) else (none)) else (none)) else ((alive.f).bind fun t143 => (some t143))) else (none))) else (none)))) = some r := H
      have A8 := Aside0.mk A80
      clear A80
      replace H := Option.bind_eq_some_iff.mp H
      obtain ⟨t139, A90, H⟩ := H
      replace H : ((fault_Worse.f k a0 t139).bind fun t140 => (if t138 = t140 then ((fault_Worse.f k a0 0).bind fun t141 => (if t141 = a0 then (if t136 = 0 then (if a0 = 0 then (if a1 = 0 then ((alive.f).bind fun t142 => (some t142)) else (none)) else (none)) else ((alive.f).bind fun t143 => (some t143))) else (none))) else (none))) = some r := H
      have A9 := Aside0.mk A90
      clear A90
      replace H := Option.bind_eq_some_iff.mp H
      obtain ⟨t140, A100, H⟩ := H
      replace H : (if t138 = t140 then ((fault_Worse.f k a0 0).bind fun t141 => (if t141 = a0 then (if t136 = 0 then (if a0 = 0 then (if a1 = 0 then ((alive.f).bind fun t142 => (some t142)) else (none)) else (none)) else ((alive.f).bind fun t143 => (some t143))) else (none))) else (none)) = some r := H
      have A10 := Aside0.mk A100
      clear A100
      by_cases c11 : t138 = t140
      · rw [if_pos c11] at H
        have c11b0 : (t138 == t140) = true := beq_iff_eq.mpr c11
        have c11b1 : (t138 != t140) = false := bne_eq_false_iff_eq.mpr c11
        clear c11
        replace H := Option.bind_eq_some_iff.mp H
        obtain ⟨t141, A120, H⟩ := H
        replace H : (if t141 = a0 then (if t136 = 0 then (if a0 = 0 then (if a1 = 0 then ((alive.f).bind fun t142 => (some t142)) else (none)) else (none)) else ((alive.f).bind fun t143 => (some t143))) else (none)) = some r := H
        have A12 := Aside0.mk A120
        clear A120
        by_cases c13 : t141 = a0
        · rw [if_pos c13] at H
          have c13b0 : (t141 == a0) = true := beq_iff_eq.mpr c13
          have c13b1 : (t141 != a0) = false := bne_eq_false_iff_eq.mpr c13
          clear c13
          by_cases c14 : t136 = 0
          · rw [if_pos c14] at H
            have c14b0 : (t136 == 0) = true := beq_iff_eq.mpr c14
            have c14b1 : (t136 != 0) = false := bne_eq_false_iff_eq.mpr c14
            clear c14
            by_cases c15 : a0 = 0
            · rw [if_pos c15] at H
              have c15b0 : (a0 == 0) = true := beq_iff_eq.mpr c15
              have c15b1 : (a0 != 0) = false := bne_eq_false_iff_eq.mpr c15
              clear c15
              by_cases c16 : a1 = 0
              · rw [if_pos c16] at H
                have c16b0 : (a1 == 0) = true := beq_iff_eq.mpr c16
                have c16b1 : (a1 != 0) = false := bne_eq_false_iff_eq.mpr c16
                clear c16
                replace H := Option.bind_eq_some_iff.mp H
                obtain ⟨t142, A170, H⟩ := H
                replace H : (some t142) = some r := H
                have A17 := Aside0.mk A170
                clear A170
                obtain rfl := Option.some.inj H
                go_enter Tryd.func7, Tryd.ntmps7
                go_wp2_with (first | ((with_reducible refine gate_callee (f := 27) rfl ?_); refine goesL_ (some 10) rfl rfl Tryd.func27 (by kernel_rfl) rfl #[.int .i64 a0, .int .i64 a1] rfl (by (try simp only [List.map_toArray, List.map_cons, List.map_nil]); first | done | rfl | (simp only [List.length_drop, List.length_take]; rfl)) ?_; (with_reducible refine (fault_Worse.calls k a0 a1 t136 _ A4.out).mono ?_); rintro e w18 ⟨rfl, hb⟩; refine ⟨_, rfl, ?_⟩; have n0_ := Aside0.mk (below_step (by repeat (first | (with_reducible first | exact HB.out | apply below_alloc | apply pw_below_drewN | apply below_drew1) | exact HB.out)) hb); clear HB; have HB := n0_; clear n0_; (try clear hb); (try clear hb2); (try clear hk); (try clear hi)) | ((with_reducible refine gate_callee (f := 27) rfl ?_); refine goesL_ (some 14) rfl rfl Tryd.func27 (by kernel_rfl) rfl #[.int .i64 a1, .int .i64 a0] rfl (by (try simp only [List.map_toArray, List.map_cons, List.map_nil]); first | done | rfl | (simp only [List.length_drop, List.length_take]; rfl)) ?_; (with_reducible refine (fault_Worse.calls k a1 a0 t137 _ A5.out).mono ?_); rintro e w19 ⟨rfl, hb⟩; refine ⟨_, rfl, ?_⟩; have n0_ := Aside0.mk (below_step (by repeat (first | (with_reducible first | exact HB.out | apply below_alloc | apply pw_below_drewN | apply below_drew1) | exact HB.out)) hb); clear HB; have HB := n0_; clear n0_; (try clear hb); (try clear hb2); (try clear hk); (try clear hi)) | (go_at_call 27; (with_reducible refine (fault_Worse.calls k t136 a2 t138 _ A8.out).mono ?_); rintro e w20 ⟨rfl, hb⟩; have n0_ := Aside0.mk (below_step (by repeat (first | (with_reducible first | exact HB.out | apply below_alloc | apply pw_below_drewN | apply below_drew1) | exact HB.out)) hb); clear HB; have HB := n0_; clear n0_; (try clear hb); (try clear hb2); (try clear hk); (try clear hi)) | (go_at_call 27; (with_reducible refine (fault_Worse.calls k a1 a2 t139 _ A9.out).mono ?_); rintro e w21 ⟨rfl, hb⟩; have n0_ := Aside0.mk (below_step (by repeat (first | (with_reducible first | exact HB.out | apply below_alloc | apply pw_below_drewN | apply below_drew1) | exact HB.out)) hb); clear HB; have HB := n0_; clear n0_; (try clear hb); (try clear hb2); (try clear hk); (try clear hi)) | (go_at_call 27; (with_reducible refine (fault_Worse.calls k a0 t139 t140 _ A10.out).mono ?_); rintro e w22 ⟨rfl, hb⟩; have n0_ := Aside0.mk (below_step (by repeat (first | (with_reducible first | exact HB.out | apply below_alloc | apply pw_below_drewN | apply below_drew1) | exact HB.out)) hb); clear HB; have HB := n0_; clear n0_; (try clear hb); (try clear hb2); (try clear hk); (try clear hi)) | (go_at_call 27; (with_reducible refine (fault_Worse.calls k a0 0 t141 _ A12.out).mono ?_); rintro e w23 ⟨rfl, hb⟩; have n0_ := Aside0.mk (below_step (by repeat (first | (with_reducible first | exact HB.out | apply below_alloc | apply pw_below_drewN | apply below_drew1) | exact HB.out)) hb); clear HB; have HB := n0_; clear n0_; (try clear hb); (try clear hb2); (try clear hk); (try clear hi)) | (go_at_call 16; (with_reducible refine (alive.calls  t142 _ (HW.out.on (by repeat (first | (with_reducible first | exact HB.out | apply below_alloc | apply pw_below_drewN | apply below_drew1) | exact HB.out))) A17.out).mono ?_); rintro e w24 ⟨rfl, hb⟩; have n0_ := Aside0.mk (below_step (by repeat (first | (with_reducible first | exact HB.out | apply below_alloc | apply pw_below_drewN | apply below_drew1) | exact HB.out)) hb); clear HB; have HB := n0_; clear n0_; (try clear hb); (try clear hb2); (try clear hk); (try clear hi)))
                go_ret
                exact ⟨by first | rfl | exact isEmpty_bne_ _ | (simp [errW_none, errW_some] <;> rfl) | (simp [*, errW_none, errW_some] <;> rfl), by repeat (first | (with_reducible first | exact HB.out | apply below_alloc | apply pw_below_drewN | apply below_drew1) | exact HB.out)⟩
              · rw [if_neg c16] at H
                exact absurd H (by simp)
            · rw [if_neg c15] at H
              exact absurd H (by simp)
          · rw [if_neg c14] at H
            have c14b0 : (t136 == 0) = false := beq_eq_false_iff_ne.mpr c14
            have c14b1 : (t136 != 0) = true := bne_iff_ne.mpr c14
            replace H := Option.bind_eq_some_iff.mp H
            obtain ⟨t143, A250, H⟩ := H
            replace H : (some t143) = some r := H
            have A25 := Aside0.mk A250
            clear A250
            obtain rfl := Option.some.inj H
            go_enter Tryd.func7, Tryd.ntmps7
            go_wp2_with (first | ((with_reducible refine gate_callee (f := 27) rfl ?_); refine goesL_ (some 10) rfl rfl Tryd.func27 (by kernel_rfl) rfl #[.int .i64 a0, .int .i64 a1] rfl (by (try simp only [List.map_toArray, List.map_cons, List.map_nil]); first | done | rfl | (simp only [List.length_drop, List.length_take]; rfl)) ?_; (with_reducible refine (fault_Worse.calls k a0 a1 t136 _ A4.out).mono ?_); rintro e w26 ⟨rfl, hb⟩; refine ⟨_, rfl, ?_⟩; have n0_ := Aside0.mk (below_step (by repeat (first | (with_reducible first | exact HB.out | apply below_alloc | apply pw_below_drewN | apply below_drew1) | exact HB.out)) hb); clear HB; have HB := n0_; clear n0_; (try clear hb); (try clear hb2); (try clear hk); (try clear hi)) | ((with_reducible refine gate_callee (f := 27) rfl ?_); refine goesL_ (some 14) rfl rfl Tryd.func27 (by kernel_rfl) rfl #[.int .i64 a1, .int .i64 a0] rfl (by (try simp only [List.map_toArray, List.map_cons, List.map_nil]); first | done | rfl | (simp only [List.length_drop, List.length_take]; rfl)) ?_; (with_reducible refine (fault_Worse.calls k a1 a0 t137 _ A5.out).mono ?_); rintro e w27 ⟨rfl, hb⟩; refine ⟨_, rfl, ?_⟩; have n0_ := Aside0.mk (below_step (by repeat (first | (with_reducible first | exact HB.out | apply below_alloc | apply pw_below_drewN | apply below_drew1) | exact HB.out)) hb); clear HB; have HB := n0_; clear n0_; (try clear hb); (try clear hb2); (try clear hk); (try clear hi)) | (go_at_call 27; (with_reducible refine (fault_Worse.calls k t136 a2 t138 _ A8.out).mono ?_); rintro e w28 ⟨rfl, hb⟩; have n0_ := Aside0.mk (below_step (by repeat (first | (with_reducible first | exact HB.out | apply below_alloc | apply pw_below_drewN | apply below_drew1) | exact HB.out)) hb); clear HB; have HB := n0_; clear n0_; (try clear hb); (try clear hb2); (try clear hk); (try clear hi)) | (go_at_call 27; (with_reducible refine (fault_Worse.calls k a1 a2 t139 _ A9.out).mono ?_); rintro e w29 ⟨rfl, hb⟩; have n0_ := Aside0.mk (below_step (by repeat (first | (with_reducible first | exact HB.out | apply below_alloc | apply pw_below_drewN | apply below_drew1) | exact HB.out)) hb); clear HB; have HB := n0_; clear n0_; (try clear hb); (try clear hb2); (try clear hk); (try clear hi)) | (go_at_call 27; (with_reducible refine (fault_Worse.calls k a0 t139 t140 _ A10.out).mono ?_); rintro e w30 ⟨rfl, hb⟩; have n0_ := Aside0.mk (below_step (by repeat (first | (with_reducible first | exact HB.out | apply below_alloc | apply pw_below_drewN | apply below_drew1) | exact HB.out)) hb); clear HB; have HB := n0_; clear n0_; (try clear hb); (try clear hb2); (try clear hk); (try clear hi)) | (go_at_call 27; (with_reducible refine (fault_Worse.calls k a0 0 t141 _ A12.out).mono ?_); rintro e w31 ⟨rfl, hb⟩; have n0_ := Aside0.mk (below_step (by repeat (first | (with_reducible first | exact HB.out | apply below_alloc | apply pw_below_drewN | apply below_drew1) | exact HB.out)) hb); clear HB; have HB := n0_; clear n0_; (try clear hb); (try clear hb2); (try clear hk); (try clear hi)) | (go_at_call 16; (with_reducible refine (alive.calls  t143 _ (HW.out.on (by repeat (first | (with_reducible first | exact HB.out | apply below_alloc | apply pw_below_drewN | apply below_drew1) | exact HB.out))) A25.out).mono ?_); rintro e w32 ⟨rfl, hb⟩; have n0_ := Aside0.mk (below_step (by repeat (first | (with_reducible first | exact HB.out | apply below_alloc | apply pw_below_drewN | apply below_drew1) | exact HB.out)) hb); clear HB; have HB := n0_; clear n0_; (try clear hb); (try clear hb2); (try clear hk); (try clear hi)))
            go_ret
            exact ⟨by first | rfl | exact isEmpty_bne_ _ | (simp [errW_none, errW_some] <;> rfl) | (simp [*, errW_none, errW_some] <;> rfl), by repeat (first | (with_reducible first | exact HB.out | apply below_alloc | apply pw_below_drewN | apply below_drew1) | exact HB.out)⟩
        · rw [if_neg c13] at H
          exact absurd H (by simp)
      · rw [if_neg c11] at H
        exact absurd H (by simp)
    · rw [if_neg c7] at H
      have c7b0 : (t136 == a0) = false := beq_eq_false_iff_ne.mpr c7
      have c7b1 : (t136 != a0) = true := bne_iff_ne.mpr c7
      by_cases c33 : t136 = a1
      · rw [if_pos c33] at H
        have c33b0 : (t136 == a1) = true := beq_iff_eq.mpr c33
        have c33b1 : (t136 != a1) = false := bne_eq_false_iff_eq.mpr c33
        clear c33
        replace H := Option.bind_eq_some_iff.mp H
        obtain ⟨t144, A340, H⟩ := H
        replace H : ((fault_Worse.f k a1 a2).bind fun t145 => ((fault_Worse.f k a0 t145).bind fun t146 => (if t144 = t146 then ((fault_Worse.f k a0 0).bind fun t147 => (if t147 = a0 then (if t136 = 0 then (if a0 = 0 then (if a1 = 0 then ((alive.f).bind fun t148 => (some t148)) else (none)) else (none)) else ((alive.f).bind fun t149 => (some t149))) else (none))) else (none)))) = some r := H
        have A34 := Aside0.mk A340
        clear A340
        replace H := Option.bind_eq_some_iff.mp H
        obtain ⟨t145, A350, H⟩ := H
        replace H : ((fault_Worse.f k a0 t145).bind fun t146 => (if t144 = t146 then ((fault_Worse.f k a0 0).bind fun t147 => (if t147 = a0 then (if t136 = 0 then (if a0 = 0 then (if a1 = 0 then ((alive.f).bind fun t148 => (some t148)) else (none)) else (none)) else ((alive.f).bind fun t149 => (some t149))) else (none))) else (none))) = some r := H
        have A35 := Aside0.mk A350
        clear A350
        replace H := Option.bind_eq_some_iff.mp H
        obtain ⟨t146, A360, H⟩ := H
        replace H : (if t144 = t146 then ((fault_Worse.f k a0 0).bind fun t147 => (if t147 = a0 then (if t136 = 0 then (if a0 = 0 then (if a1 = 0 then ((alive.f).bind fun t148 => (some t148)) else (none)) else (none)) else ((alive.f).bind fun t149 => (some t149))) else (none))) else (none)) = some r := H
        have A36 := Aside0.mk A360
        clear A360
        by_cases c37 : t144 = t146
        · rw [if_pos c37] at H
          have c37b0 : (t144 == t146) = true := beq_iff_eq.mpr c37
          have c37b1 : (t144 != t146) = false := bne_eq_false_iff_eq.mpr c37
          clear c37
          replace H := Option.bind_eq_some_iff.mp H
          obtain ⟨t147, A380, H⟩ := H
          replace H : (if t147 = a0 then (if t136 = 0 then (if a0 = 0 then (if a1 = 0 then ((alive.f).bind fun t148 => (some t148)) else (none)) else (none)) else ((alive.f).bind fun t149 => (some t149))) else (none)) = some r := H
          have A38 := Aside0.mk A380
          clear A380
          by_cases c39 : t147 = a0
          · rw [if_pos c39] at H
            have c39b0 : (t147 == a0) = true := beq_iff_eq.mpr c39
            have c39b1 : (t147 != a0) = false := bne_eq_false_iff_eq.mpr c39
            clear c39
            by_cases c40 : t136 = 0
            · rw [if_pos c40] at H
              have c40b0 : (t136 == 0) = true := beq_iff_eq.mpr c40
              have c40b1 : (t136 != 0) = false := bne_eq_false_iff_eq.mpr c40
              clear c40
              by_cases c41 : a0 = 0
              · rw [if_pos c41] at H
                have c41b0 : (a0 == 0) = true := beq_iff_eq.mpr c41
                have c41b1 : (a0 != 0) = false := bne_eq_false_iff_eq.mpr c41
                clear c41
                by_cases c42 : a1 = 0
                · rw [if_pos c42] at H
                  have c42b0 : (a1 == 0) = true := beq_iff_eq.mpr c42
                  have c42b1 : (a1 != 0) = false := bne_eq_false_iff_eq.mpr c42
                  clear c42
                  replace H := Option.bind_eq_some_iff.mp H
                  obtain ⟨t148, A430, H⟩ := H
                  replace H : (some t148) = some r := H
                  have A43 := Aside0.mk A430
                  clear A430
                  obtain rfl := Option.some.inj H
                  go_enter Tryd.func7, Tryd.ntmps7
                  go_wp2_with (first | ((with_reducible refine gate_callee (f := 27) rfl ?_); refine goesL_ (some 10) rfl rfl Tryd.func27 (by kernel_rfl) rfl #[.int .i64 a0, .int .i64 a1] rfl (by (try simp only [List.map_toArray, List.map_cons, List.map_nil]); first | done | rfl | (simp only [List.length_drop, List.length_take]; rfl)) ?_; (with_reducible refine (fault_Worse.calls k a0 a1 t136 _ A4.out).mono ?_); rintro e w44 ⟨rfl, hb⟩; refine ⟨_, rfl, ?_⟩; have n0_ := Aside0.mk (below_step (by repeat (first | (with_reducible first | exact HB.out | apply below_alloc | apply pw_below_drewN | apply below_drew1) | exact HB.out)) hb); clear HB; have HB := n0_; clear n0_; (try clear hb); (try clear hb2); (try clear hk); (try clear hi)) | ((with_reducible refine gate_callee (f := 27) rfl ?_); refine goesL_ (some 14) rfl rfl Tryd.func27 (by kernel_rfl) rfl #[.int .i64 a1, .int .i64 a0] rfl (by (try simp only [List.map_toArray, List.map_cons, List.map_nil]); first | done | rfl | (simp only [List.length_drop, List.length_take]; rfl)) ?_; (with_reducible refine (fault_Worse.calls k a1 a0 t137 _ A5.out).mono ?_); rintro e w45 ⟨rfl, hb⟩; refine ⟨_, rfl, ?_⟩; have n0_ := Aside0.mk (below_step (by repeat (first | (with_reducible first | exact HB.out | apply below_alloc | apply pw_below_drewN | apply below_drew1) | exact HB.out)) hb); clear HB; have HB := n0_; clear n0_; (try clear hb); (try clear hb2); (try clear hk); (try clear hi)) | (go_at_call 27; (with_reducible refine (fault_Worse.calls k t136 a2 t144 _ A34.out).mono ?_); rintro e w46 ⟨rfl, hb⟩; have n0_ := Aside0.mk (below_step (by repeat (first | (with_reducible first | exact HB.out | apply below_alloc | apply pw_below_drewN | apply below_drew1) | exact HB.out)) hb); clear HB; have HB := n0_; clear n0_; (try clear hb); (try clear hb2); (try clear hk); (try clear hi)) | (go_at_call 27; (with_reducible refine (fault_Worse.calls k a1 a2 t145 _ A35.out).mono ?_); rintro e w47 ⟨rfl, hb⟩; have n0_ := Aside0.mk (below_step (by repeat (first | (with_reducible first | exact HB.out | apply below_alloc | apply pw_below_drewN | apply below_drew1) | exact HB.out)) hb); clear HB; have HB := n0_; clear n0_; (try clear hb); (try clear hb2); (try clear hk); (try clear hi)) | (go_at_call 27; (with_reducible refine (fault_Worse.calls k a0 t145 t146 _ A36.out).mono ?_); rintro e w48 ⟨rfl, hb⟩; have n0_ := Aside0.mk (below_step (by repeat (first | (with_reducible first | exact HB.out | apply below_alloc | apply pw_below_drewN | apply below_drew1) | exact HB.out)) hb); clear HB; have HB := n0_; clear n0_; (try clear hb); (try clear hb2); (try clear hk); (try clear hi)) | (go_at_call 27; (with_reducible refine (fault_Worse.calls k a0 0 t147 _ A38.out).mono ?_); rintro e w49 ⟨rfl, hb⟩; have n0_ := Aside0.mk (below_step (by repeat (first | (with_reducible first | exact HB.out | apply below_alloc | apply pw_below_drewN | apply below_drew1) | exact HB.out)) hb); clear HB; have HB := n0_; clear n0_; (try clear hb); (try clear hb2); (try clear hk); (try clear hi)) | (go_at_call 16; (with_reducible refine (alive.calls  t148 _ (HW.out.on (by repeat (first | (with_reducible first | exact HB.out | apply below_alloc | apply pw_below_drewN | apply below_drew1) | exact HB.out))) A43.out).mono ?_); rintro e w50 ⟨rfl, hb⟩; have n0_ := Aside0.mk (below_step (by repeat (first | (with_reducible first | exact HB.out | apply below_alloc | apply pw_below_drewN | apply below_drew1) | exact HB.out)) hb); clear HB; have HB := n0_; clear n0_; (try clear hb); (try clear hb2); (try clear hk); (try clear hi)))
                  go_ret
                  exact ⟨by first | rfl | exact isEmpty_bne_ _ | (simp [errW_none, errW_some] <;> rfl) | (simp [*, errW_none, errW_some] <;> rfl), by repeat (first | (with_reducible first | exact HB.out | apply below_alloc | apply pw_below_drewN | apply below_drew1) | exact HB.out)⟩
                · rw [if_neg c42] at H
                  exact absurd H (by simp)
              · rw [if_neg c41] at H
                exact absurd H (by simp)
            · rw [if_neg c40] at H
              have c40b0 : (t136 == 0) = false := beq_eq_false_iff_ne.mpr c40
              have c40b1 : (t136 != 0) = true := bne_iff_ne.mpr c40
              replace H := Option.bind_eq_some_iff.mp H
              obtain ⟨t149, A510, H⟩ := H
              replace H : (some t149) = some r := H
              have A51 := Aside0.mk A510
              clear A510
              obtain rfl := Option.some.inj H
              go_enter Tryd.func7, Tryd.ntmps7
              go_wp2_with (first | ((with_reducible refine gate_callee (f := 27) rfl ?_); refine goesL_ (some 10) rfl rfl Tryd.func27 (by kernel_rfl) rfl #[.int .i64 a0, .int .i64 a1] rfl (by (try simp only [List.map_toArray, List.map_cons, List.map_nil]); first | done | rfl | (simp only [List.length_drop, List.length_take]; rfl)) ?_; (with_reducible refine (fault_Worse.calls k a0 a1 t136 _ A4.out).mono ?_); rintro e w52 ⟨rfl, hb⟩; refine ⟨_, rfl, ?_⟩; have n0_ := Aside0.mk (below_step (by repeat (first | (with_reducible first | exact HB.out | apply below_alloc | apply pw_below_drewN | apply below_drew1) | exact HB.out)) hb); clear HB; have HB := n0_; clear n0_; (try clear hb); (try clear hb2); (try clear hk); (try clear hi)) | ((with_reducible refine gate_callee (f := 27) rfl ?_); refine goesL_ (some 14) rfl rfl Tryd.func27 (by kernel_rfl) rfl #[.int .i64 a1, .int .i64 a0] rfl (by (try simp only [List.map_toArray, List.map_cons, List.map_nil]); first | done | rfl | (simp only [List.length_drop, List.length_take]; rfl)) ?_; (with_reducible refine (fault_Worse.calls k a1 a0 t137 _ A5.out).mono ?_); rintro e w53 ⟨rfl, hb⟩; refine ⟨_, rfl, ?_⟩; have n0_ := Aside0.mk (below_step (by repeat (first | (with_reducible first | exact HB.out | apply below_alloc | apply pw_below_drewN | apply below_drew1) | exact HB.out)) hb); clear HB; have HB := n0_; clear n0_; (try clear hb); (try clear hb2); (try clear hk); (try clear hi)) | (go_at_call 27; (with_reducible refine (fault_Worse.calls k t136 a2 t144 _ A34.out).mono ?_); rintro e w54 ⟨rfl, hb⟩; have n0_ := Aside0.mk (below_step (by repeat (first | (with_reducible first | exact HB.out | apply below_alloc | apply pw_below_drewN | apply below_drew1) | exact HB.out)) hb); clear HB; have HB := n0_; clear n0_; (try clear hb); (try clear hb2); (try clear hk); (try clear hi)) | (go_at_call 27; (with_reducible refine (fault_Worse.calls k a1 a2 t145 _ A35.out).mono ?_); rintro e w55 ⟨rfl, hb⟩; have n0_ := Aside0.mk (below_step (by repeat (first | (with_reducible first | exact HB.out | apply below_alloc | apply pw_below_drewN | apply below_drew1) | exact HB.out)) hb); clear HB; have HB := n0_; clear n0_; (try clear hb); (try clear hb2); (try clear hk); (try clear hi)) | (go_at_call 27; (with_reducible refine (fault_Worse.calls k a0 t145 t146 _ A36.out).mono ?_); rintro e w56 ⟨rfl, hb⟩; have n0_ := Aside0.mk (below_step (by repeat (first | (with_reducible first | exact HB.out | apply below_alloc | apply pw_below_drewN | apply below_drew1) | exact HB.out)) hb); clear HB; have HB := n0_; clear n0_; (try clear hb); (try clear hb2); (try clear hk); (try clear hi)) | (go_at_call 27; (with_reducible refine (fault_Worse.calls k a0 0 t147 _ A38.out).mono ?_); rintro e w57 ⟨rfl, hb⟩; have n0_ := Aside0.mk (below_step (by repeat (first | (with_reducible first | exact HB.out | apply below_alloc | apply pw_below_drewN | apply below_drew1) | exact HB.out)) hb); clear HB; have HB := n0_; clear n0_; (try clear hb); (try clear hb2); (try clear hk); (try clear hi)) | (go_at_call 16; (with_reducible refine (alive.calls  t149 _ (HW.out.on (by repeat (first | (with_reducible first | exact HB.out | apply below_alloc | apply pw_below_drewN | apply below_drew1) | exact HB.out))) A51.out).mono ?_); rintro e w58 ⟨rfl, hb⟩; have n0_ := Aside0.mk (below_step (by repeat (first | (with_reducible first | exact HB.out | apply below_alloc | apply pw_below_drewN | apply below_drew1) | exact HB.out)) hb); clear HB; have HB := n0_; clear n0_; (try clear hb); (try clear hb2); (try clear hk); (try clear hi)))
              go_ret
              exact ⟨by first | rfl | exact isEmpty_bne_ _ | (simp [errW_none, errW_some] <;> rfl) | (simp [*, errW_none, errW_some] <;> rfl), by repeat (first | (with_reducible first | exact HB.out | apply below_alloc | apply pw_below_drewN | apply below_drew1) | exact HB.out)⟩
          · rw [if_neg c39] at H
            exact absurd H (by simp)
        · rw [if_neg c37] at H
          exact absurd H (by simp)
      · rw [if_neg c33] at H
        exact absurd H (by simp)
  · rw [if_neg c6] at H
    exact absurd H (by simp)

/-! ### pumicelaw04_FaultFirsts: function 9 -/
def pumicelaw04_FaultFirsts.f (k : Nat) (a0 : Int) (a1 : Int) (l2 : List Int) : Option (Bool) := (fault_First.f k l2).bind fun bt150 => ((pumiceref04_First.f k l2).bind fun bt152 => ((fault_Worse.f k a0 a1).bind fun t154 => ((pumiceref04_Worse.f k a0 a1).bind fun t155 => (if t154 = t155 then (if bt150.1 = bt152.1 then (if bt150.2 = bt152.2 then ((alive.f).bind fun t156 => (some t156)) else (none)) else (none)) else (none)))))
theorem pumicelaw04_FaultFirsts.mono : ∀ a0 a1 a2 k, LeO (pumicelaw04_FaultFirsts.f k a0 a1 a2) (pumicelaw04_FaultFirsts.f (k + 1) a0 a1 a2) := by
  intro a0 a1 a2 k
  unfold pumicelaw04_FaultFirsts.f
  repeat' first
      | (with_reducible exact fault_First.mono _ _)
      | (with_reducible exact fault_Worse.mono _ _ _)
      | (with_reducible exact pumiceref04_First.mono _ _)
      | (with_reducible exact pumiceref04_Worse.mono _ _ _)
      | (with_reducible exact LeO.refl _)
      | (with_reducible exact LeO.none _)
      | (with_reducible refine LeO.ite ?_ ?_)
      | (with_reducible refine LeO.bind ?_ (fun _ => ?_))
      | exact fault_First.mono _ _
      | exact fault_Worse.mono _ _ _
      | exact pumiceref04_First.mono _ _
      | exact pumiceref04_Worse.mono _ _ _
      | exact LeO.none _
      | refine LeO.ite ?_ ?_
      | refine LeO.bind ?_ (fun _ => ?_)
set_option maxHeartbeats 8000000 in
set_option maxRecDepth 100000 in
theorem pumicelaw04_FaultFirsts.calls (k : Nat) (a0 : Int) (a1 : Int) (A2 : Option Addr) (c2 : Nat) (l2 : List Int) (r : Bool) (w : World) (HW0 : As.Laid w) (hr2 : Kd.C (Kd.int .i64) w A2 l2.length l2) (hc2 : l2.length ≤ c2) (h : pumicelaw04_FaultFirsts.f k a0 a1 l2 = some r) :
    Calls Tryd.prog 9 #[.int .i64 a0, .int .i64 a1, .slice A2 l2.length c2] w fun e w' => e = .returned (.bool r) ∧ Below w.heap.size w w' := by
  have HR2 := Aside0.mk hr2
  have HC2 := Aside0.mk hc2
  clear hr2 hc2
  have HB := Aside0.mk (Below.refl w.heap.size w)
  have HW := Aside0.mk HW0
  clear HW0
  have H : ((fault_First.f k l2).bind fun bt150 => ((pumiceref04_First.f k l2).bind fun bt152 => ((fault_Worse.f k a0 a1).bind fun t154 => ((pumiceref04_Worse.f k a0 a1).bind fun t155 => (if t154 = t155 then (if bt150.1 = bt152.1 then (if bt150.2 = bt152.2 then ((alive.f).bind fun t156 => (some t156)) else (none)) else (none)) else (none)))))) = some r := h
  clear h
  replace H := Option.bind_eq_some_iff.mp H
  obtain ⟨⟨t150, t151⟩, A40, H⟩ := H
  replace H : ((pumiceref04_First.f k l2).bind fun bt152 => ((fault_Worse.f k a0 a1).bind fun t154 => ((pumiceref04_Worse.f k a0 a1).bind fun t155 => (if t154 = t155 then (if t150 = bt152.1 then (if t151 = bt152.2 then ((alive.f).bind fun t156 => (some t156)) else (none)) else (none)) else (none))))) = some r := H
  have A4 := Aside0.mk A40
  clear A40
  replace H := Option.bind_eq_some_iff.mp H
  obtain ⟨⟨t152, t153⟩, A50, H⟩ := H
  replace H : ((fault_Worse.f k a0 a1).bind fun t154 => ((pumiceref04_Worse.f k a0 a1).bind fun t155 => (if t154 = t155 then (if t150 = t152 then (if t151 = t153 then ((alive.f).bind fun t156 => (some t156)) else (none)) else (none)) else (none)))) = some r := H
  have A5 := Aside0.mk A50
  clear A50
  replace H := Option.bind_eq_some_iff.mp H
  obtain ⟨t154, A60, H⟩ := H
  replace H : ((pumiceref04_Worse.f k a0 a1).bind fun t155 => (if t154 = t155 then (if t150 = t152 then (if t151 = t153 then ((alive.f).bind fun t156 => (some t156)) else (none)) else (none)) else (none))) = some r := H
  have A6 := Aside0.mk A60
  clear A60
  replace H := Option.bind_eq_some_iff.mp H
  obtain ⟨t155, A70, H⟩ := H
  replace H : (if t154 = t155 then (if t150 = t152 then (if t151 = t153 then ((alive.f).bind fun t156 => (some t156)) else (none)) else (none)) else (none)) = some r := H
  have A7 := Aside0.mk A70
  clear A70
  by_cases c8 : t154 = t155
  · rw [if_pos c8] at H
    have c8b0 : (t154 == t155) = true := beq_iff_eq.mpr c8
    have c8b1 : (t154 != t155) = false := bne_eq_false_iff_eq.mpr c8
    clear c8
    by_cases c9 : t150 = t152
    · rw [if_pos c9] at H
      have c9b0 : (t150 == t152) = true := beq_iff_eq.mpr c9
      have c9b1 : (t150 != t152) = false := bne_eq_false_iff_eq.mpr c9
      clear c9
      by_cases c10 : t151 = t153
      · rw [if_pos c10] at H
        have c10b0 : (t151 == t153) = true := beq_iff_eq.mpr c10
        have c10b1 : (t151 != t153) = false := bne_eq_false_iff_eq.mpr c10
        clear c10
        replace H := Option.bind_eq_some_iff.mp H
        obtain ⟨t156, A110, H⟩ := H
        replace H : (some t156) = some r := H
        have A11 := Aside0.mk A110
        clear A110
        obtain rfl := Option.some.inj H
        go_enter Tryd.func9, Tryd.ntmps9
        go_wp2_with (first | ((with_reducible refine gate_callee (f := 29) rfl ?_); refine goesL_ (some 13) rfl rfl Tryd.func29 (by kernel_rfl) rfl #[.slice A2 l2.length c2] rfl (by (try simp only [List.map_toArray, List.map_cons, List.map_nil]); first | done | rfl | (simp only [List.length_drop, List.length_take]; rfl)) ?_; (with_reducible refine (fault_First.calls k _ _ l2 t150 t151 _ ?side1 ?side2 A4.out).mono ?_); (case side1 => repeat (first | exact HR2.out | (with_reducible refine Kd.C_alloc ?_ _) | (with_reducible refine Kd.C_drewN ?_ _) | (with_reducible refine Kd.C_drew ?_))); (case side2 => exact HC2.out); rintro e w' ⟨rfl, ⟨nd, rfl⟩⟩; refine ⟨_, rfl, ?_⟩) | ((with_reducible refine gate_callee (f := 30) rfl ?_); refine goesL_ (some 18) rfl rfl Tryd.func30 (by kernel_rfl) rfl #[.slice A2 l2.length c2] rfl (by (try simp only [List.map_toArray, List.map_cons, List.map_nil]); first | done | rfl | (simp only [List.length_drop, List.length_take]; rfl)) ?_; (with_reducible refine (pumiceref04_First.calls k _ _ l2 t152 t153 _ ?side1 ?side2 A5.out).mono ?_); (case side1 => repeat (first | exact HR2.out | (with_reducible refine Kd.C_alloc ?_ _) | (with_reducible refine Kd.C_drewN ?_ _) | (with_reducible refine Kd.C_drew ?_))); (case side2 => exact HC2.out); rintro e w' ⟨rfl, ⟨nd, rfl⟩⟩; refine ⟨_, rfl, ?_⟩) | ((with_reducible refine gate_callee (f := 27) rfl ?_); refine goesL_ (some 23) rfl rfl Tryd.func27 (by kernel_rfl) rfl #[.int .i64 a0, .int .i64 a1] rfl (by (try simp only [List.map_toArray, List.map_cons, List.map_nil]); first | done | rfl | (simp only [List.length_drop, List.length_take]; rfl)) ?_; (with_reducible refine (fault_Worse.calls k a0 a1 t154 _ A6.out).mono ?_); rintro e w12 ⟨rfl, hb⟩; refine ⟨_, rfl, ?_⟩; have n0_ := Aside0.mk (below_step (by repeat (first | (with_reducible first | exact HB.out | apply below_alloc | apply pw_below_drewN | apply below_drew1) | exact HB.out)) hb); clear HB; have HB := n0_; clear n0_; (try clear hb); (try clear hb2); (try clear hk); (try clear hi)) | ((with_reducible refine gate_callee (f := 31) rfl ?_); refine goesL_ (some 26) rfl rfl Tryd.func31 (by kernel_rfl) rfl #[.int .i64 a0, .int .i64 a1] rfl (by (try simp only [List.map_toArray, List.map_cons, List.map_nil]); first | done | rfl | (simp only [List.length_drop, List.length_take]; rfl)) ?_; (with_reducible refine (pumiceref04_Worse.calls k a0 a1 t155 _ A7.out).mono ?_); rintro e w' ⟨rfl, ⟨nd, rfl⟩⟩; refine ⟨_, rfl, ?_⟩) | (go_at_call 16; (with_reducible refine (alive.calls  t156 _ (HW.out.on (by repeat (first | (with_reducible first | exact HB.out | apply below_alloc | apply pw_below_drewN | apply below_drew1) | exact HB.out))) A11.out).mono ?_); rintro e w13 ⟨rfl, hb⟩; have n0_ := Aside0.mk (below_step (by repeat (first | (with_reducible first | exact HB.out | apply below_alloc | apply pw_below_drewN | apply below_drew1) | exact HB.out)) hb); clear HB; have HB := n0_; clear n0_; (try clear hb); (try clear hb2); (try clear hk); (try clear hi)))
        go_ret
        exact ⟨by first | rfl | exact isEmpty_bne_ _ | (simp [errW_none, errW_some] <;> rfl) | (simp [*, errW_none, errW_some] <;> rfl), by repeat (first | (with_reducible first | exact HB.out | apply below_alloc | apply pw_below_drewN | apply below_drew1) | exact HB.out)⟩
      · rw [if_neg c10] at H
        exact absurd H (by simp)
    · rw [if_neg c9] at H
      exact absurd H (by simp)
  · rw [if_neg c8] at H
    exact absurd H (by simp)

/-! ### pumicelaw04_FaultFound: function 4 -/
def pumicelaw04_FaultFound.j0 : Nat → Int → Bool → Bool → Option (Bool)
  | 0, _, _, _ => none
  | k + 1, x0, x6, x30 => if x30 = true then (none) else ((fault_Class.f k x0).bind fun t164 => (if ((t164 == 0) == (x0 == 0)) = true then (if x6 = true then ((fault_Class.f k x0).bind fun t165 => (if t165 < 6 then ((alive.f).bind fun t166 => (some t166)) else (none))) else ((fault_Class.f k x0).bind fun t167 => (if t167 = 6 then ((alive.f).bind fun t168 => (some t168)) else (none)))) else (none)))
def pumicelaw04_FaultFound.f (k : Nat) (a0 : Int) (a1 : Int) : Option (Bool) := (fault_Name.f k a0).bind fun t157 => ((fault_Find.f k t157).bind fun bt158 => (if bt158.2 = true then (if bt158.1 = a0 then ((fault_Name.f k a0).bind fun t160 => ((fault_Name.f k a1).bind fun t161 => (if t160.toList = t161.toList then (pumicelaw04_FaultFound.j0 k a0 bt158.2 (a0 != a1)) else (pumicelaw04_FaultFound.j0 k a0 bt158.2 false)))) else (pumicelaw04_FaultFound.j0 k a0 bt158.2 true)) else ((fault_Name.f k a0).bind fun t162 => ((fault_Name.f k a1).bind fun t163 => (if t162.toList = t163.toList then (pumicelaw04_FaultFound.j0 k a0 bt158.2 (a0 != a1)) else (pumicelaw04_FaultFound.j0 k a0 bt158.2 false))))))
theorem pumicelaw04_FaultFound.mono_l : ∀ k, (∀ y0 y1 y2, LeO (pumicelaw04_FaultFound.j0 k y0 y1 y2) (pumicelaw04_FaultFound.j0 (k + 1) y0 y1 y2))
  | 0 => fun _ _ _ r h => by simp [pumicelaw04_FaultFound.j0] at h
  | k + 1 => by
    have ih0 := pumicelaw04_FaultFound.mono_l k
    · intro y0 y1 y2
      unfold pumicelaw04_FaultFound.j0
      repeat' first
      | (with_reducible exact ih0 _ _ _)
      | (with_reducible exact fault_Class.mono _ _)
      | (with_reducible exact fault_Find.mono _ _)
      | (with_reducible exact fault_Name.mono _ _)
      | (with_reducible exact LeO.refl _)
      | (with_reducible exact LeO.none _)
      | (with_reducible refine LeO.ite ?_ ?_)
      | (with_reducible refine LeO.bind ?_ (fun _ => ?_))
      | exact ih0 _ _ _
      | exact fault_Class.mono _ _
      | exact fault_Find.mono _ _
      | exact fault_Name.mono _ _
      | exact LeO.none _
      | refine LeO.ite ?_ ?_
      | refine LeO.bind ?_ (fun _ => ?_)
theorem pumicelaw04_FaultFound.mono : ∀ a0 a1 k, LeO (pumicelaw04_FaultFound.f k a0 a1) (pumicelaw04_FaultFound.f (k + 1) a0 a1) := by
  intro a0 a1 k
  have ih0 := pumicelaw04_FaultFound.mono_l k
  unfold pumicelaw04_FaultFound.f
  repeat' first
      | (with_reducible exact ih0 _ _ _)
      | (with_reducible exact fault_Class.mono _ _)
      | (with_reducible exact fault_Find.mono _ _)
      | (with_reducible exact fault_Name.mono _ _)
      | (with_reducible exact LeO.refl _)
      | (with_reducible exact LeO.none _)
      | (with_reducible refine LeO.ite ?_ ?_)
      | (with_reducible refine LeO.bind ?_ (fun _ => ?_))
      | exact ih0 _ _ _
      | exact fault_Class.mono _ _
      | exact fault_Find.mono _ _
      | exact fault_Name.mono _ _
      | exact LeO.none _
      | refine LeO.ite ?_ ?_
      | refine LeO.bind ?_ (fun _ => ?_)
set_option maxHeartbeats 8000000 in
set_option maxRecDepth 100000 in
theorem pumicelaw04_FaultFound.calls (k : Nat) (a0 : Int) (a1 : Int) (r : Bool) (w : World) (HW0 : As.Laid w) (h : pumicelaw04_FaultFound.f k a0 a1 = some r) :
    Calls Tryd.prog 4 #[.int .i64 a0, .int .i64 a1] w fun e w' => e = .returned (.bool r) ∧ Below w.heap.size w w' := by
  have HB := Aside0.mk (Below.refl w.heap.size w)
  have HW := Aside0.mk HW0
  clear HW0
  have H : ((fault_Name.f k a0).bind fun t157 => ((fault_Find.f k t157).bind fun bt158 => (if bt158.2 = true then (if bt158.1 = a0 then ((fault_Name.f k a0).bind fun t160 => ((fault_Name.f k a1).bind fun t161 => (if t160.toList = t161.toList then (pumicelaw04_FaultFound.j0 k a0 bt158.2 (a0 != a1)) else (pumicelaw04_FaultFound.j0 k a0 bt158.2 false)))) else (pumicelaw04_FaultFound.j0 k a0 bt158.2 true)) else ((fault_Name.f k a0).bind fun t162 => ((fault_Name.f k a1).bind fun t163 => (if t162.toList = t163.toList then (pumicelaw04_FaultFound.j0 k a0 bt158.2 (a0 != a1)) else (pumicelaw04_FaultFound.j0 k a0 bt158.2 false))))))) = some r := h
  clear h
  replace H := Option.bind_eq_some_iff.mp H
  obtain ⟨t157, A30, H⟩ := H
  replace H : ((fault_Find.f k t157).bind fun bt158 => (if bt158.2 = true then (if bt158.1 = a0 then ((fault_Name.f k a0).bind fun t160 => ((fault_Name.f k a1).bind fun t161 => (if t160.toList = t161.toList then (pumicelaw04_FaultFound.j0 k a0 bt158.2 (a0 != a1)) else (pumicelaw04_FaultFound.j0 k a0 bt158.2 false)))) else (pumicelaw04_FaultFound.j0 k a0 bt158.2 true)) else ((fault_Name.f k a0).bind fun t162 => ((fault_Name.f k a1).bind fun t163 => (if t162.toList = t163.toList then (pumicelaw04_FaultFound.j0 k a0 bt158.2 (a0 != a1)) else (pumicelaw04_FaultFound.j0 k a0 bt158.2 false)))))) = some r := H
  have A3 := Aside0.mk A30
  clear A30
  replace H := Option.bind_eq_some_iff.mp H
  obtain ⟨⟨t158, t159⟩, A40, H⟩ := H
  replace H : (if t159 = true then (if t158 = a0 then ((fault_Name.f k a0).bind fun t160 => ((fault_Name.f k a1).bind fun t161 => (if t160.toList = t161.toList then (pumicelaw04_FaultFound.j0 k a0 t159 (a0 != a1)) else (pumicelaw04_FaultFound.j0 k a0 t159 false)))) else (pumicelaw04_FaultFound.j0 k a0 t159 true)) else ((fault_Name.f k a0).bind fun t162 => ((fault_Name.f k a1).bind fun t163 => (if t162.toList = t163.toList then (pumicelaw04_FaultFound.j0 k a0 t159 (a0 != a1)) else (pumicelaw04_FaultFound.j0 k a0 t159 false))))) = some r := H
  have A4 := Aside0.mk A40
  clear A40
  have HC5 := Aside0.mk H
  clear H
  go_enter Tryd.func4, Tryd.ntmps4
  go_upto_region 2 with (first | ((with_reducible refine gate_callee (f := 14) rfl ?_); refine goesL_ (some 9) rfl rfl Tryd.func14 (by kernel_rfl) rfl #[.int .i64 a0] rfl (by (try simp only [List.map_toArray, List.map_cons, List.map_nil]); first | done | rfl | (simp only [List.length_drop, List.length_take]; rfl)) ?_; (with_reducible refine (fault_Name.calls k a0 t157 _ (HW.out.on (by repeat (first | (with_reducible first | exact HB.out | apply below_alloc | apply pw_below_drewN | apply below_drew1) | exact HB.out))) A3.out).mono ?_); rintro e w6 ⟨rfl, hb⟩; refine ⟨_, rfl, ?_⟩; have n0_ := Aside0.mk (below_step (by repeat (first | (with_reducible first | exact HB.out | apply below_alloc | apply pw_below_drewN | apply below_drew1) | exact HB.out)) hb); clear HB; have HB := n0_; clear n0_; (try clear hb); (try clear hb2); (try clear hk); (try clear hi)) | ((with_reducible refine gate_callee (f := 10) rfl ?_); refine goesL_ (some 10) rfl rfl Tryd.func10 (by kernel_rfl) rfl #[.string t157] rfl (by (try simp only [List.map_toArray, List.map_cons, List.map_nil]); first | done | rfl | (simp only [List.length_drop, List.length_take]; rfl)) ?_; (with_reducible refine (fault_Find.calls k t157 t158 t159 _ A4.out).mono ?_); rintro e w7 ⟨rfl, hb⟩; refine ⟨_, rfl, ?_⟩; have n0_ := Aside0.mk (below_step (by repeat (first | (with_reducible first | exact HB.out | apply below_alloc | apply pw_below_drewN | apply below_drew1) | exact HB.out)) hb); clear HB; have HB := n0_; clear n0_; (try clear hb); (try clear hb2); (try clear hk); (try clear hi)))
  (try simp only [Act.put, List.setIfInBounds_toArray, List.set_cons_zero, List.set_cons_succ])
  go_cut [30] (fun v30 wc => ∃ (kq : Nat) (x30_4 : Bool), v30 = .bool x30_4 ∧ Aside0 (pumicelaw04_FaultFound.j0 kq a0 t159 x30_4 = some r) ∧ Aside0 (kq ≤ k) ∧ Aside0 (Below w.heap.size w wc))
  case first =>
    have H := HC5.out
    clear HC5
    by_cases c8 : t159 = true
    · subst c8
      have H1 : (if t158 = a0 then ((fault_Name.f k a0).bind fun t160 => ((fault_Name.f k a1).bind fun t161 => (if t160.toList = t161.toList then (pumicelaw04_FaultFound.j0 k a0 true (a0 != a1)) else (pumicelaw04_FaultFound.j0 k a0 true false)))) else (pumicelaw04_FaultFound.j0 k a0 true true)) = some r := by rw [if_pos rfl] at H; exact H
      clear H
      have H := H1
      clear H1
      by_cases c9 : t158 = a0
      · rw [if_pos c9] at H
        have c9b0 : (t158 == a0) = true := beq_iff_eq.mpr c9
        have c9b1 : (t158 != a0) = false := bne_eq_false_iff_eq.mpr c9
        clear c9
        (first | rw [c9b0] | (simp only [i64_w, i32_w]; rw [c9b0]) | skip)
        replace H := Option.bind_eq_some_iff.mp H
        obtain ⟨t160, A100, H⟩ := H
        replace H : ((fault_Name.f k a1).bind fun t161 => (if t160.toList = t161.toList then (pumicelaw04_FaultFound.j0 k a0 true (a0 != a1)) else (pumicelaw04_FaultFound.j0 k a0 true false))) = some r := H
        have A10 := Aside0.mk A100
        clear A100
        replace H := Option.bind_eq_some_iff.mp H
        obtain ⟨t161, A110, H⟩ := H
        replace H : (if t160.toList = t161.toList then (pumicelaw04_FaultFound.j0 k a0 true (a0 != a1)) else (pumicelaw04_FaultFound.j0 k a0 true false)) = some r := H
        have A11 := Aside0.mk A110
        clear A110
        by_cases c12 : t160.toList = t161.toList
        · rw [if_pos c12] at H
          have c12b0 : (t160.toList == t161.toList) = true := beq_iff_eq.mpr c12
          have c12b1 : (t160.toList != t161.toList) = false := bne_eq_false_iff_eq.mpr c12
          clear c12
          have H' := Aside0.mk H
          clear H
          go_wp2_with (first | (go_at_call 14; (with_reducible refine (fault_Name.calls k a0 t160 _ (HW.out.on (by repeat (first | (with_reducible first | exact HB.out | apply below_alloc | apply pw_below_drewN | apply below_drew1) | exact HB.out))) A10.out).mono ?_); rintro e w13 ⟨rfl, hb⟩; have n0_ := Aside0.mk (below_step (by repeat (first | (with_reducible first | exact HB.out | apply below_alloc | apply pw_below_drewN | apply below_drew1) | exact HB.out)) hb); clear HB; have HB := n0_; clear n0_; (try clear hb); (try clear hb2); (try clear hk); (try clear hi)) | (go_at_call 14; (with_reducible refine (fault_Name.calls k a1 t161 _ (HW.out.on (by repeat (first | (with_reducible first | exact HB.out | apply below_alloc | apply pw_below_drewN | apply below_drew1) | exact HB.out))) A11.out).mono ?_); rintro e w14 ⟨rfl, hb⟩; have n0_ := Aside0.mk (below_step (by repeat (first | (with_reducible first | exact HB.out | apply below_alloc | apply pw_below_drewN | apply below_drew1) | exact HB.out)) hb); clear HB; have HB := n0_; clear n0_; (try clear hb); (try clear hb2); (try clear hk); (try clear hi)))
          go_meet
          case rel => exact ⟨_, ((a0 != a1)), (by first | rfl | (simp; done) | (simp [*]; done) | (simp [wrap64]; done)), H', ⟨by first | omega | exact Nat.le_refl _⟩, ⟨by repeat (first | (with_reducible first | exact HB.out | apply below_alloc | apply pw_below_drewN | apply below_drew1) | exact HB.out)⟩⟩
        · rw [if_neg c12] at H
          have c12b0 : (t160.toList == t161.toList) = false := beq_eq_false_iff_ne.mpr c12
          have c12b1 : (t160.toList != t161.toList) = true := bne_iff_ne.mpr c12
          have H' := Aside0.mk H
          clear H
          go_wp2_with (first | (go_at_call 14; (with_reducible refine (fault_Name.calls k a0 t160 _ (HW.out.on (by repeat (first | (with_reducible first | exact HB.out | apply below_alloc | apply pw_below_drewN | apply below_drew1) | exact HB.out))) A10.out).mono ?_); rintro e w15 ⟨rfl, hb⟩; have n0_ := Aside0.mk (below_step (by repeat (first | (with_reducible first | exact HB.out | apply below_alloc | apply pw_below_drewN | apply below_drew1) | exact HB.out)) hb); clear HB; have HB := n0_; clear n0_; (try clear hb); (try clear hb2); (try clear hk); (try clear hi)) | (go_at_call 14; (with_reducible refine (fault_Name.calls k a1 t161 _ (HW.out.on (by repeat (first | (with_reducible first | exact HB.out | apply below_alloc | apply pw_below_drewN | apply below_drew1) | exact HB.out))) A11.out).mono ?_); rintro e w16 ⟨rfl, hb⟩; have n0_ := Aside0.mk (below_step (by repeat (first | (with_reducible first | exact HB.out | apply below_alloc | apply pw_below_drewN | apply below_drew1) | exact HB.out)) hb); clear HB; have HB := n0_; clear n0_; (try clear hb); (try clear hb2); (try clear hk); (try clear hi)))
          go_meet
          case rel => exact ⟨_, (false), (by first | rfl | (simp; done) | (simp [*]; done) | (simp [wrap64]; done)), H', ⟨by first | omega | exact Nat.le_refl _⟩, ⟨by repeat (first | (with_reducible first | exact HB.out | apply below_alloc | apply pw_below_drewN | apply below_drew1) | exact HB.out)⟩⟩
      · rw [if_neg c9] at H
        have c9b0 : (t158 == a0) = false := beq_eq_false_iff_ne.mpr c9
        have c9b1 : (t158 != a0) = true := bne_iff_ne.mpr c9
        (first | rw [c9b0] | (simp only [i64_w, i32_w]; rw [c9b0]) | skip)
        have H' := Aside0.mk H
        clear H
        go_wp2
        go_meet
        case rel => exact ⟨_, (true), (by first | rfl | (simp; done) | (simp [*]; done) | (simp [wrap64]; done)), H', ⟨by first | omega | exact Nat.le_refl _⟩, ⟨by repeat (first | (with_reducible first | exact HB.out | apply below_alloc | apply pw_below_drewN | apply below_drew1) | exact HB.out)⟩⟩
    · replace c8 := Bool.eq_false_iff.mpr c8
      subst c8
      have H1 : ((fault_Name.f k a0).bind fun t162 => ((fault_Name.f k a1).bind fun t163 => (if t162.toList = t163.toList then (pumicelaw04_FaultFound.j0 k a0 false (a0 != a1)) else (pumicelaw04_FaultFound.j0 k a0 false false)))) = some r := by rw [if_neg (show ¬ (false = true) by decide)] at H; exact H
      clear H
      have H := H1
      clear H1
      replace H := Option.bind_eq_some_iff.mp H
      obtain ⟨t162, A170, H⟩ := H
      replace H : ((fault_Name.f k a1).bind fun t163 => (if t162.toList = t163.toList then (pumicelaw04_FaultFound.j0 k a0 false (a0 != a1)) else (pumicelaw04_FaultFound.j0 k a0 false false))) = some r := H
      have A17 := Aside0.mk A170
      clear A170
      replace H := Option.bind_eq_some_iff.mp H
      obtain ⟨t163, A180, H⟩ := H
      replace H : (if t162.toList = t163.toList then (pumicelaw04_FaultFound.j0 k a0 false (a0 != a1)) else (pumicelaw04_FaultFound.j0 k a0 false false)) = some r := H
      have A18 := Aside0.mk A180
      clear A180
      by_cases c19 : t162.toList = t163.toList
      · rw [if_pos c19] at H
        have c19b0 : (t162.toList == t163.toList) = true := beq_iff_eq.mpr c19
        have c19b1 : (t162.toList != t163.toList) = false := bne_eq_false_iff_eq.mpr c19
        clear c19
        have H' := Aside0.mk H
        clear H
        go_wp2_with (first | (go_at_call 14; (with_reducible refine (fault_Name.calls k a0 t162 _ (HW.out.on (by repeat (first | (with_reducible first | exact HB.out | apply below_alloc | apply pw_below_drewN | apply below_drew1) | exact HB.out))) A17.out).mono ?_); rintro e w20 ⟨rfl, hb⟩; have n0_ := Aside0.mk (below_step (by repeat (first | (with_reducible first | exact HB.out | apply below_alloc | apply pw_below_drewN | apply below_drew1) | exact HB.out)) hb); clear HB; have HB := n0_; clear n0_; (try clear hb); (try clear hb2); (try clear hk); (try clear hi)) | (go_at_call 14; (with_reducible refine (fault_Name.calls k a1 t163 _ (HW.out.on (by repeat (first | (with_reducible first | exact HB.out | apply below_alloc | apply pw_below_drewN | apply below_drew1) | exact HB.out))) A18.out).mono ?_); rintro e w21 ⟨rfl, hb⟩; have n0_ := Aside0.mk (below_step (by repeat (first | (with_reducible first | exact HB.out | apply below_alloc | apply pw_below_drewN | apply below_drew1) | exact HB.out)) hb); clear HB; have HB := n0_; clear n0_; (try clear hb); (try clear hb2); (try clear hk); (try clear hi)))
        go_meet
        case rel => exact ⟨_, ((a0 != a1)), (by first | rfl | (simp; done) | (simp [*]; done) | (simp [wrap64]; done)), H', ⟨by first | omega | exact Nat.le_refl _⟩, ⟨by repeat (first | (with_reducible first | exact HB.out | apply below_alloc | apply pw_below_drewN | apply below_drew1) | exact HB.out)⟩⟩
      · rw [if_neg c19] at H
        have c19b0 : (t162.toList == t163.toList) = false := beq_eq_false_iff_ne.mpr c19
        have c19b1 : (t162.toList != t163.toList) = true := bne_iff_ne.mpr c19
        have H' := Aside0.mk H
        clear H
        go_wp2_with (first | (go_at_call 14; (with_reducible refine (fault_Name.calls k a0 t162 _ (HW.out.on (by repeat (first | (with_reducible first | exact HB.out | apply below_alloc | apply pw_below_drewN | apply below_drew1) | exact HB.out))) A17.out).mono ?_); rintro e w22 ⟨rfl, hb⟩; have n0_ := Aside0.mk (below_step (by repeat (first | (with_reducible first | exact HB.out | apply below_alloc | apply pw_below_drewN | apply below_drew1) | exact HB.out)) hb); clear HB; have HB := n0_; clear n0_; (try clear hb); (try clear hb2); (try clear hk); (try clear hi)) | (go_at_call 14; (with_reducible refine (fault_Name.calls k a1 t163 _ (HW.out.on (by repeat (first | (with_reducible first | exact HB.out | apply below_alloc | apply pw_below_drewN | apply below_drew1) | exact HB.out))) A18.out).mono ?_); rintro e w23 ⟨rfl, hb⟩; have n0_ := Aside0.mk (below_step (by repeat (first | (with_reducible first | exact HB.out | apply below_alloc | apply pw_below_drewN | apply below_drew1) | exact HB.out)) hb); clear HB; have HB := n0_; clear n0_; (try clear hb); (try clear hb2); (try clear hk); (try clear hi)))
        go_meet
        case rel => exact ⟨_, (false), (by first | rfl | (simp; done) | (simp [*]; done) | (simp [wrap64]; done)), H', ⟨by first | omega | exact Nat.le_refl _⟩, ⟨by repeat (first | (with_reducible first | exact HB.out | apply below_alloc | apply pw_below_drewN | apply below_drew1) | exact HB.out)⟩⟩
  case rest =>
    clear HC5
    try clear c1
    try clear p2
    try clear c4
    try clear p6
    try clear c8
    try clear c9
    try clear c9b0
    try clear c9b1
    try clear c10
    try clear c12
    try clear c12b0
    try clear c12b1
    try clear c14
    try clear c19
    try clear c19b0
    try clear c19b1
    obtain ⟨kq, x30_4, rfl, HA, HJ4, HB⟩ := hcut
    cases kq with
    | zero => exact absurd HA.out (by simp [pumicelaw04_FaultFound.j0])
    | succ kj4 =>
      have H := HA.out
      clear HA
      simp only [pumicelaw04_FaultFound.j0] at H
      by_cases c24 : x30_4 = true
      · subst c24
        have H1 : (none) = some r := by rw [if_pos rfl] at H; exact H
        clear H
        have H := H1
        clear H1
        exact absurd H (by simp)
      · replace c24 := Bool.eq_false_iff.mpr c24
        subst c24
        have H1 : ((fault_Class.f kj4 a0).bind fun t164 => (if ((t164 == 0) == (a0 == 0)) = true then (if t159 = true then ((fault_Class.f kj4 a0).bind fun t165 => (if t165 < 6 then ((alive.f).bind fun t166 => (some t166)) else (none))) else ((fault_Class.f kj4 a0).bind fun t167 => (if t167 = 6 then ((alive.f).bind fun t168 => (some t168)) else (none)))) else (none))) = some r := by rw [if_neg (show ¬ (false = true) by decide)] at H; exact H
        clear H
        have H := H1
        clear H1
        replace H := Option.bind_eq_some_iff.mp H
        obtain ⟨t164, A250, H⟩ := H
        replace H : (if ((t164 == 0) == (a0 == 0)) = true then (if t159 = true then ((fault_Class.f kj4 a0).bind fun t165 => (if t165 < 6 then ((alive.f).bind fun t166 => (some t166)) else (none))) else ((fault_Class.f kj4 a0).bind fun t167 => (if t167 = 6 then ((alive.f).bind fun t168 => (some t168)) else (none)))) else (none)) = some r := H
        have A25 := Aside0.mk A250
        clear A250
        by_cases c26 : ((t164 == 0) == (a0 == 0)) = true
        · rw [if_pos c26] at H
          have c26b0 : ((t164 == 0) == (a0 == 0)) = true := c26
          (try (have c26b1 : decide ((t164 == 0) = (a0 == 0)) = true := by simpa using c26))
          (try (have c26b2 : ((t164 == 0) == (a0 == 0)) = true := by simpa using c26))
          clear c26
          by_cases c27 : t159 = true
          · subst c27
            have H1 : ((fault_Class.f kj4 a0).bind fun t165 => (if t165 < 6 then ((alive.f).bind fun t166 => (some t166)) else (none))) = some r := by rw [if_pos rfl] at H; exact H
            clear H
            have H := H1
            clear H1
            replace H := Option.bind_eq_some_iff.mp H
            obtain ⟨t165, A280, H⟩ := H
            replace H : (if t165 < 6 then ((alive.f).bind fun t166 => (some t166)) else (none)) = some r := H
            have A28 := Aside0.mk A280
            clear A280
            by_cases c29 : t165 < 6
            · rw [if_pos c29] at H
              have c29b0 : decide (t165 < 6) = true := decide_eq_true c29
              clear c29
              replace H := Option.bind_eq_some_iff.mp H
              obtain ⟨t166, A300, H⟩ := H
              replace H : (some t166) = some r := H
              have A30 := Aside0.mk A300
              clear A300
              obtain rfl := Option.some.inj H
              go_wp2_with (first | ((with_reducible refine gate_callee (f := 12) rfl ?_); refine goesL_ (some 32) rfl rfl Tryd.func12 (by kernel_rfl) rfl #[.int .i64 a0] rfl (by (try simp only [List.map_toArray, List.map_cons, List.map_nil]); first | done | rfl | (simp only [List.length_drop, List.length_take]; rfl)) ?_; (with_reducible refine (fault_Class.calls kj4 a0 t164 _ A25.out).mono ?_); rintro e w' ⟨rfl, ⟨nd, rfl⟩⟩; refine ⟨_, rfl, ?_⟩) | (go_at_call 12; (with_reducible refine (fault_Class.calls kj4 a0 t165 _ A28.out).mono ?_); rintro e w' ⟨rfl, ⟨nd, rfl⟩⟩) | (go_at_call 16; (with_reducible refine (alive.calls  t166 _ (HW.out.on (by repeat (first | (with_reducible first | exact HB.out | apply below_alloc | apply pw_below_drewN | apply below_drew1) | exact HB.out))) A30.out).mono ?_); rintro e w31 ⟨rfl, hb⟩; have n0_ := Aside0.mk (below_step (by repeat (first | (with_reducible first | exact HB.out | apply below_alloc | apply pw_below_drewN | apply below_drew1) | exact HB.out)) hb); clear HB; have HB := n0_; clear n0_; (try clear hb); (try clear hb2); (try clear hk); (try clear hi)))
              go_ret
              exact ⟨by first | rfl | exact isEmpty_bne_ _ | (simp [errW_none, errW_some] <;> rfl) | (simp [*, errW_none, errW_some] <;> rfl), by repeat (first | (with_reducible first | exact HB.out | apply below_alloc | apply pw_below_drewN | apply below_drew1) | exact HB.out)⟩
            · rw [if_neg c29] at H
              exact absurd H (by simp)
          · replace c27 := Bool.eq_false_iff.mpr c27
            subst c27
            have H1 : ((fault_Class.f kj4 a0).bind fun t167 => (if t167 = 6 then ((alive.f).bind fun t168 => (some t168)) else (none))) = some r := by rw [if_neg (show ¬ (false = true) by decide)] at H; exact H
            clear H
            have H := H1
            clear H1
            replace H := Option.bind_eq_some_iff.mp H
            obtain ⟨t167, A320, H⟩ := H
            replace H : (if t167 = 6 then ((alive.f).bind fun t168 => (some t168)) else (none)) = some r := H
            have A32 := Aside0.mk A320
            clear A320
            by_cases c33 : t167 = 6
            · rw [if_pos c33] at H
              have c33b0 : (t167 == 6) = true := beq_iff_eq.mpr c33
              have c33b1 : (t167 != 6) = false := bne_eq_false_iff_eq.mpr c33
              clear c33
              replace H := Option.bind_eq_some_iff.mp H
              obtain ⟨t168, A340, H⟩ := H
              replace H : (some t168) = some r := H
              have A34 := Aside0.mk A340
              clear A340
              obtain rfl := Option.some.inj H
              go_wp2_with (first | ((with_reducible refine gate_callee (f := 12) rfl ?_); refine goesL_ (some 32) rfl rfl Tryd.func12 (by kernel_rfl) rfl #[.int .i64 a0] rfl (by (try simp only [List.map_toArray, List.map_cons, List.map_nil]); first | done | rfl | (simp only [List.length_drop, List.length_take]; rfl)) ?_; (with_reducible refine (fault_Class.calls kj4 a0 t164 _ A25.out).mono ?_); rintro e w' ⟨rfl, ⟨nd, rfl⟩⟩; refine ⟨_, rfl, ?_⟩) | (go_at_call 12; (with_reducible refine (fault_Class.calls kj4 a0 t167 _ A32.out).mono ?_); rintro e w' ⟨rfl, ⟨nd, rfl⟩⟩) | (go_at_call 16; (with_reducible refine (alive.calls  t168 _ (HW.out.on (by repeat (first | (with_reducible first | exact HB.out | apply below_alloc | apply pw_below_drewN | apply below_drew1) | exact HB.out))) A34.out).mono ?_); rintro e w35 ⟨rfl, hb⟩; have n0_ := Aside0.mk (below_step (by repeat (first | (with_reducible first | exact HB.out | apply below_alloc | apply pw_below_drewN | apply below_drew1) | exact HB.out)) hb); clear HB; have HB := n0_; clear n0_; (try clear hb); (try clear hb2); (try clear hk); (try clear hi)))
              go_ret
              exact ⟨by first | rfl | exact isEmpty_bne_ _ | (simp [errW_none, errW_some] <;> rfl) | (simp [*, errW_none, errW_some] <;> rfl), by repeat (first | (with_reducible first | exact HB.out | apply below_alloc | apply pw_below_drewN | apply below_drew1) | exact HB.out)⟩
            · rw [if_neg c33] at H
              exact absurd H (by simp)
        · rw [if_neg c26] at H
          exact absurd H (by simp)

/-! ### pumicelaw04_FaultNames: function 3 -/
def pumicelaw04_FaultNames.f (k : Nat) (a0 : Int) (a1 : ByteArray) : Option (Bool) := (fault_Find.f k a1).bind fun bt169 => ((pumiceref04_Find.f k a1).bind fun bt171 => ((fault_Class.f k a0).bind fun t173 => ((pumiceref04_Class.f k a0).bind fun t174 => (if t173 = t174 then ((fault_Name.f k a0).bind fun t175 => ((pumiceref04_Name.f k a0).bind fun t176 => (if t175.toList = t176.toList then (if bt169.1 = bt171.1 then (if (bt169.2 == bt171.2) = true then ((alive.f).bind fun t177 => (some t177)) else (none)) else (none)) else (none)))) else (none)))))
theorem pumicelaw04_FaultNames.mono : ∀ a0 a1 k, LeO (pumicelaw04_FaultNames.f k a0 a1) (pumicelaw04_FaultNames.f (k + 1) a0 a1) := by
  intro a0 a1 k
  unfold pumicelaw04_FaultNames.f
  repeat' first
      | (with_reducible exact fault_Class.mono _ _)
      | (with_reducible exact fault_Find.mono _ _)
      | (with_reducible exact fault_Name.mono _ _)
      | (with_reducible exact pumiceref04_Class.mono _ _)
      | (with_reducible exact pumiceref04_Find.mono _ _)
      | (with_reducible exact pumiceref04_Name.mono _ _)
      | (with_reducible exact LeO.refl _)
      | (with_reducible exact LeO.none _)
      | (with_reducible refine LeO.ite ?_ ?_)
      | (with_reducible refine LeO.bind ?_ (fun _ => ?_))
      | exact fault_Class.mono _ _
      | exact fault_Find.mono _ _
      | exact fault_Name.mono _ _
      | exact pumiceref04_Class.mono _ _
      | exact pumiceref04_Find.mono _ _
      | exact pumiceref04_Name.mono _ _
      | exact LeO.none _
      | refine LeO.ite ?_ ?_
      | refine LeO.bind ?_ (fun _ => ?_)
set_option maxHeartbeats 8000000 in
set_option maxRecDepth 100000 in
theorem pumicelaw04_FaultNames.calls (k : Nat) (a0 : Int) (a1 : ByteArray) (r : Bool) (w : World) (HW0 : As.Laid w) (h : pumicelaw04_FaultNames.f k a0 a1 = some r) :
    Calls Tryd.prog 3 #[.int .i64 a0, .string a1] w fun e w' => e = .returned (.bool r) ∧ Below w.heap.size w w' := by
  have HB := Aside0.mk (Below.refl w.heap.size w)
  have HW := Aside0.mk HW0
  clear HW0
  have H : ((fault_Find.f k a1).bind fun bt169 => ((pumiceref04_Find.f k a1).bind fun bt171 => ((fault_Class.f k a0).bind fun t173 => ((pumiceref04_Class.f k a0).bind fun t174 => (if t173 = t174 then ((fault_Name.f k a0).bind fun t175 => ((pumiceref04_Name.f k a0).bind fun t176 => (if t175.toList = t176.toList then (if bt169.1 = bt171.1 then (if (bt169.2 == bt171.2) = true then ((alive.f).bind fun t177 => (some t177)) else (none)) else (none)) else (none)))) else (none)))))) = some r := h
  clear h
  replace H := Option.bind_eq_some_iff.mp H
  obtain ⟨⟨t169, t170⟩, A30, H⟩ := H
  replace H : ((pumiceref04_Find.f k a1).bind fun bt171 => ((fault_Class.f k a0).bind fun t173 => ((pumiceref04_Class.f k a0).bind fun t174 => (if t173 = t174 then ((fault_Name.f k a0).bind fun t175 => ((pumiceref04_Name.f k a0).bind fun t176 => (if t175.toList = t176.toList then (if t169 = bt171.1 then (if (t170 == bt171.2) = true then ((alive.f).bind fun t177 => (some t177)) else (none)) else (none)) else (none)))) else (none))))) = some r := H
  have A3 := Aside0.mk A30
  clear A30
  replace H := Option.bind_eq_some_iff.mp H
  obtain ⟨⟨t171, t172⟩, A40, H⟩ := H
  replace H : ((fault_Class.f k a0).bind fun t173 => ((pumiceref04_Class.f k a0).bind fun t174 => (if t173 = t174 then ((fault_Name.f k a0).bind fun t175 => ((pumiceref04_Name.f k a0).bind fun t176 => (if t175.toList = t176.toList then (if t169 = t171 then (if (t170 == t172) = true then ((alive.f).bind fun t177 => (some t177)) else (none)) else (none)) else (none)))) else (none)))) = some r := H
  have A4 := Aside0.mk A40
  clear A40
  replace H := Option.bind_eq_some_iff.mp H
  obtain ⟨t173, A50, H⟩ := H
  replace H : ((pumiceref04_Class.f k a0).bind fun t174 => (if t173 = t174 then ((fault_Name.f k a0).bind fun t175 => ((pumiceref04_Name.f k a0).bind fun t176 => (if t175.toList = t176.toList then (if t169 = t171 then (if (t170 == t172) = true then ((alive.f).bind fun t177 => (some t177)) else (none)) else (none)) else (none)))) else (none))) = some r := H
  have A5 := Aside0.mk A50
  clear A50
  replace H := Option.bind_eq_some_iff.mp H
  obtain ⟨t174, A60, H⟩ := H
  replace H : (if t173 = t174 then ((fault_Name.f k a0).bind fun t175 => ((pumiceref04_Name.f k a0).bind fun t176 => (if t175.toList = t176.toList then (if t169 = t171 then (if (t170 == t172) = true then ((alive.f).bind fun t177 => (some t177)) else (none)) else (none)) else (none)))) else (none)) = some r := H
  have A6 := Aside0.mk A60
  clear A60
  by_cases c7 : t173 = t174
  · rw [if_pos c7] at H
    have c7b0 : (t173 == t174) = true := beq_iff_eq.mpr c7
    have c7b1 : (t173 != t174) = false := bne_eq_false_iff_eq.mpr c7
    clear c7
    replace H := Option.bind_eq_some_iff.mp H
    obtain ⟨t175, A80, H⟩ := H
    replace H : ((pumiceref04_Name.f k a0).bind fun t176 => (if t175.toList = t176.toList then (if t169 = t171 then (if (t170 == t172) = true then ((alive.f).bind fun t177 => (some t177)) else (none)) else (none)) else (none))) = some r := H
    have A8 := Aside0.mk A80
    clear A80
    replace H := Option.bind_eq_some_iff.mp H
    obtain ⟨t176, A90, H⟩ := H
    replace H : (if t175.toList = t176.toList then (if t169 = t171 then (if (t170 == t172) = true then ((alive.f).bind fun t177 => (some t177)) else (none)) else (none)) else (none)) = some r := H
    have A9 := Aside0.mk A90
    clear A90
    by_cases c10 : t175.toList = t176.toList
    · rw [if_pos c10] at H
      have c10b0 : (t175.toList == t176.toList) = true := beq_iff_eq.mpr c10
      have c10b1 : (t175.toList != t176.toList) = false := bne_eq_false_iff_eq.mpr c10
      clear c10
      by_cases c11 : t169 = t171
      · rw [if_pos c11] at H
        have c11b0 : (t169 == t171) = true := beq_iff_eq.mpr c11
        have c11b1 : (t169 != t171) = false := bne_eq_false_iff_eq.mpr c11
        clear c11
        by_cases c12 : (t170 == t172) = true
        · rw [if_pos c12] at H
          have c12b0 : (t170 == t172) = true := c12
          (try (have c12b1 : decide (t170 = t172) = true := by simpa using c12))
          (try (have c12b2 : (t170 == t172) = true := by simpa using c12))
          clear c12
          replace H := Option.bind_eq_some_iff.mp H
          obtain ⟨t177, A130, H⟩ := H
          replace H : (some t177) = some r := H
          have A13 := Aside0.mk A130
          clear A130
          obtain rfl := Option.some.inj H
          go_enter Tryd.func3, Tryd.ntmps3
          go_wp2_with (first | ((with_reducible refine gate_callee (f := 10) rfl ?_); refine goesL_ (some 11) rfl rfl Tryd.func10 (by kernel_rfl) rfl #[.string a1] rfl (by (try simp only [List.map_toArray, List.map_cons, List.map_nil]); first | done | rfl | (simp only [List.length_drop, List.length_take]; rfl)) ?_; (with_reducible refine (fault_Find.calls k a1 t169 t170 _ A3.out).mono ?_); rintro e w14 ⟨rfl, hb⟩; refine ⟨_, rfl, ?_⟩; have n0_ := Aside0.mk (below_step (by repeat (first | (with_reducible first | exact HB.out | apply below_alloc | apply pw_below_drewN | apply below_drew1) | exact HB.out)) hb); clear HB; have HB := n0_; clear n0_; (try clear hb); (try clear hb2); (try clear hk); (try clear hi)) | ((with_reducible refine gate_callee (f := 11) rfl ?_); refine goesL_ (some 16) rfl rfl Tryd.func11 (by kernel_rfl) rfl #[.string a1] rfl (by (try simp only [List.map_toArray, List.map_cons, List.map_nil]); first | done | rfl | (simp only [List.length_drop, List.length_take]; rfl)) ?_; (with_reducible refine (pumiceref04_Find.calls k a1 t171 t172 _ A4.out).mono ?_); rintro e w15 ⟨rfl, hb⟩; refine ⟨_, rfl, ?_⟩; have n0_ := Aside0.mk (below_step (by repeat (first | (with_reducible first | exact HB.out | apply below_alloc | apply pw_below_drewN | apply below_drew1) | exact HB.out)) hb); clear HB; have HB := n0_; clear n0_; (try clear hb); (try clear hb2); (try clear hk); (try clear hi)) | ((with_reducible refine gate_callee (f := 12) rfl ?_); refine goesL_ (some 20) rfl rfl Tryd.func12 (by kernel_rfl) rfl #[.int .i64 a0] rfl (by (try simp only [List.map_toArray, List.map_cons, List.map_nil]); first | done | rfl | (simp only [List.length_drop, List.length_take]; rfl)) ?_; (with_reducible refine (fault_Class.calls k a0 t173 _ A5.out).mono ?_); rintro e w' ⟨rfl, ⟨nd, rfl⟩⟩; refine ⟨_, rfl, ?_⟩) | ((with_reducible refine gate_callee (f := 13) rfl ?_); refine goesL_ (some 22) rfl rfl Tryd.func13 (by kernel_rfl) rfl #[.int .i64 a0] rfl (by (try simp only [List.map_toArray, List.map_cons, List.map_nil]); first | done | rfl | (simp only [List.length_drop, List.length_take]; rfl)) ?_; (with_reducible refine (pumiceref04_Class.calls k a0 t174 _ A6.out).mono ?_); rintro e w' ⟨rfl, ⟨nd, rfl⟩⟩; refine ⟨_, rfl, ?_⟩) | (go_at_call 14; (with_reducible refine (fault_Name.calls k a0 t175 _ (HW.out.on (by repeat (first | (with_reducible first | exact HB.out | apply below_alloc | apply pw_below_drewN | apply below_drew1) | exact HB.out))) A8.out).mono ?_); rintro e w16 ⟨rfl, hb⟩; have n0_ := Aside0.mk (below_step (by repeat (first | (with_reducible first | exact HB.out | apply below_alloc | apply pw_below_drewN | apply below_drew1) | exact HB.out)) hb); clear HB; have HB := n0_; clear n0_; (try clear hb); (try clear hb2); (try clear hk); (try clear hi)) | (go_at_call 15; (with_reducible refine (pumiceref04_Name.calls k a0 t176 _ A9.out).mono ?_); rintro e w17 ⟨rfl, hb⟩; have n0_ := Aside0.mk (below_step (by repeat (first | (with_reducible first | exact HB.out | apply below_alloc | apply pw_below_drewN | apply below_drew1) | exact HB.out)) hb); clear HB; have HB := n0_; clear n0_; (try clear hb); (try clear hb2); (try clear hk); (try clear hi)) | (go_at_call 16; (with_reducible refine (alive.calls  t177 _ (HW.out.on (by repeat (first | (with_reducible first | exact HB.out | apply below_alloc | apply pw_below_drewN | apply below_drew1) | exact HB.out))) A13.out).mono ?_); rintro e w18 ⟨rfl, hb⟩; have n0_ := Aside0.mk (below_step (by repeat (first | (with_reducible first | exact HB.out | apply below_alloc | apply pw_below_drewN | apply below_drew1) | exact HB.out)) hb); clear HB; have HB := n0_; clear n0_; (try clear hb); (try clear hb2); (try clear hk); (try clear hi)))
          go_ret
          exact ⟨by first | rfl | exact isEmpty_bne_ _ | (simp [errW_none, errW_some] <;> rfl) | (simp [*, errW_none, errW_some] <;> rfl), by repeat (first | (with_reducible first | exact HB.out | apply below_alloc | apply pw_below_drewN | apply below_drew1) | exact HB.out)⟩
        · rw [if_neg c12] at H
          exact absurd H (by simp)
      · rw [if_neg c11] at H
        exact absurd H (by simp)
    · rw [if_neg c10] at H
      exact absurd H (by simp)
  · rw [if_neg c7] at H
    exact absurd H (by simp)

end Go.Proofs.YtfmmmojlnfndkaaDoor.Q

namespace Go.Proofs.YtfmmmojlnfndkaaDoor.Q
open Go.RowKit Go.Proofs.YtfmmmojlnfndkaaDoorW.PrintWords Go.Proofs.YtfmmmojlnfndkaaDoorW.PrintLast
theorem up {α : Type} (g : Nat → Option α) (hm : ∀ k, LeO (g k) (g (k + 1))) {r : α} {m : Nat} (h : g m = some r) : ∀ n, m ≤ n → g n = some r := by
  intro n
  induction n with
  | zero => intro hn; obtain rfl : m = 0 := by omega
            exact h
  | succ n ih =>
    intro hn
    rcases Nat.lt_or_ge n m with h1 | h1
    · obtain rfl : m = n + 1 := by omega
      exact h
    · exact hm n r (ih h1)
def known : List Int := [0, 1, 2, 5, 6, 9, 13, 14, 16, 17, 19, 20, 21, 22, 24, 27, 28, 30, 31, 36, 39, 40, 117]
end Go.Proofs.YtfmmmojlnfndkaaDoor.Q

namespace Go.Proofs.YtfmmmojlnfndkaaDoor.Q
open Go.RowKit Go.Proofs.YtfmmmojlnfndkaaDoorW.PrintWords Go.Proofs.YtfmmmojlnfndkaaDoorW.PrintLast
/-! ### names -/
/-! ### digits -/
/-! ### the document's names -/
theorem wf64 {a : Int} (h : (Lit.int .i64 a).wf = true) : -9223372036854775808 ≤ a ∧ a ≤ 9223372036854775807 := by
  have h1 : IntKind.i64.min = -9223372036854775808 := rfl
  have h2 : IntKind.i64.max = 9223372036854775807 := rfl
  simpa [Lit.wf, h1, h2] using h
end Go.Proofs.YtfmmmojlnfndkaaDoor.Q

namespace Go.Proofs.YtfmmmojlnfndkaaDoor.As
open Go.RowKit Go.Proofs.YtfmmmojlnfndkaaDoorW.PrintWords Go.Proofs.YtfmmmojlnfndkaaDoorW.PrintLast Go.Extern.Stop Go.Stop Go.Extern
/-- A chain of errors: how deep, the errno at its end, what was done (outermost first). -/
inductive Ch (w : World) : Value → Nat → Option Int → List ByteArray → Prop
  | errno (e : Int) : Ch w (.iface 22 (.int .i64 e)) 0 (some e) []
  | str (b : Nat) : Ch w (.iface 88 (.pointer (some ⟨b, 0, none⟩))) 0 none []
  | bare (b : Nat) (op : ByteArray) : w.cell? ⟨b, 0, none⟩ = some (.string op) → w.cell? ⟨b, 2, none⟩ = some .nilIface → Ch w (.iface 40 (.pointer (some ⟨b, 0, none⟩))) 0 none [op]
  | wrap (b : Nat) (op : ByteArray) (v : Value) (n : Nat) (r : Option Int) (l : List ByteArray) : w.cell? ⟨b, 0, none⟩ = some (.string op) → w.cell? ⟨b, 2, none⟩ = some v → Ch w v n r l → Ch w (.iface 40 (.pointer (some ⟨b, 0, none⟩))) (n + 1) r (op :: l)
  | other (b : Nat) (v : Value) (n : Nat) (r : Option Int) (l : List ByteArray) : w.cell? ⟨b, 0, none⟩ = some v → Ch w v n r l → Ch w (.iface 50 (.pointer (some ⟨b, 0, none⟩))) (n + 1) r l
theorem Ch.on {w w' : World} {v : Value} {n : Nat} {r : Option Int} {l : List ByteArray} (h : Ch w v n r l) (hb : Below w.heap.size w w') : Ch w' v n r l := by
  induction h with
  | errno e => exact .errno e
  | str b => exact .str b
  | bare b op h1 h2 => exact .bare b op (cell_below hb h1) (cell_below hb h2)
  | wrap b op v n r l h1 h2 _ ih => exact .wrap b op v n r l (cell_below hb h1) (cell_below hb h2) ih
  | other b v n r l h1 _ ih => exact .other b v n r l (cell_below hb h1) ih
theorem Ch.iface {w : World} {v : Value} {n : Nat} {r : Option Int} {l : List ByteArray} (h : Ch w v n r l) : ∃ t x, v = .iface t x := by cases h <;> exact ⟨_, _, rfl⟩
theorem Ch.same {w : World} {v : Value} {n : Nat} {r : Option Int} {l : List ByteArray} (h : Ch w v n r l) : ∀ {n' r' l'}, Ch w v n' r' l' → n = n' ∧ r = r' ∧ l = l' := by
  induction h with
  | errno e => intro _ _ _ h; cases h; exact ⟨rfl, rfl, rfl⟩
  | str b => intro _ _ _ h; cases h; exact ⟨rfl, rfl, rfl⟩
  | bare b op h1 h2 =>
    intro _ _ _ h
    cases h with
    | bare _ op' k1 k2 =>
      have e := Option.some.inj (h1.symm.trans k1)
      cases e
      exact ⟨rfl, rfl, rfl⟩
    | wrap _ op' v' n' r' l' k1 k2 k3 =>
      have e := Option.some.inj (h2.symm.trans k2)
      obtain ⟨t, x, hx⟩ := k3.iface
      rw [hx] at e; cases e
  | wrap b op v n r l h1 h2 h3 ih =>
    intro _ _ _ h
    cases h with
    | bare _ op' k1 k2 =>
      have e := Option.some.inj (h2.symm.trans k2)
      obtain ⟨t, x, hx⟩ := h3.iface
      rw [hx] at e; cases e
    | wrap _ op' v' n' r' l' k1 k2 k3 =>
      have e := Option.some.inj (h1.symm.trans k1)
      cases e
      have e2 := Option.some.inj (h2.symm.trans k2)
      subst e2
      obtain ⟨a, b, c⟩ := ih k3
      exact ⟨by rw [a], b, by rw [c]⟩
  | other b v n r l h1 h2 ih =>
    intro _ _ _ h
    cases h with
    | other _ v' n' r' l' k1 k2 =>
      have e2 := Option.some.inj (h1.symm.trans k1)
      subst e2
      obtain ⟨a, b, c⟩ := ih k2
      exact ⟨by rw [a], b, c⟩
/-- How deep a value is. -/
noncomputable def dep (w : World) (v : Value) : Nat := by
  classical exact if h : ∃ n r l, Ch w v n r l then h.choose else 0
theorem dep_of {w : World} {v : Value} {n : Nat} {r : Option Int} {l : List ByteArray} (h : Ch w v n r l) : dep w v = n := by
  have hx : ∃ n r l, Ch w v n r l := ⟨n, r, l, h⟩
  unfold dep
  rw [dif_pos hx]
  obtain ⟨r', l', h'⟩ := hx.choose_spec
  exact (h'.same h).1
theorem asUn88 (v : Value) (w : World) : (Instr.typeAssert (.iface 88 v) 32 100 true).run Tryd.prog w = .ok (.tuple #[.nilIface, .bool false]) w := run_typeAssert_lacksB Tryd.underlying100 (by kernel_rfl) (by kernel_rfl) v 32 w
theorem asUns88 (v : Value) (w : World) : (Instr.typeAssert (.iface 88 v) 32 101 true).run Tryd.prog w = .ok (.tuple #[.nilIface, .bool false]) w := run_typeAssert_lacksB Tryd.underlying101 (by kernel_rfl) (by kernel_rfl) v 32 w
theorem isNo88 (v : Value) (w : World) : (Instr.typeAssert (.iface 88 v) 32 104 true).run Tryd.prog w = .ok (.tuple #[.nilIface, .bool false]) w := run_typeAssert_lacksB Tryd.underlying104 (by kernel_rfl) (by kernel_rfl) v 32 w
theorem eql88_22 (p : Value) (f : Int) (w : World) : (binOp .eql 32 (.iface 88 p) (.iface 22 (.int .i64 f))).run Tryd.prog w = .ok (.bool false) w := run_eql_iface_types 88 22 p (.int .i64 f) Tryd.underlying32 (by decide) w
end Go.Proofs.YtfmmmojlnfndkaaDoor.As

namespace Go.Proofs.YtfmmmojlnfndkaaDoor.As
open Go.RowKit Go.Proofs.YtfmmmojlnfndkaaDoorW.PrintWords Go.Proofs.YtfmmmojlnfndkaaDoorW.PrintLast Go.Extern.Stop Go.Stop Go.Extern
def AsW (w : World) (p : Nat) : World := w.alloc (.cells #[.pointer (some ⟨4, 73, none⟩), .pointer (some ⟨p, 0, none⟩), .int .u64 150] 77)
/-- How errors.as_ ends over a chain. -/
def As40Post (w : World) (p : Nat) (t : Addr) (r : Option Int) (ev : Ending) (w' : World) : Prop := match r with
  | some e => ev = .returned (.bool true) ∧ w' = ((AsW w p).alloc (.cells #[.int .i64 e] 22)).setCell t (.int .i64 e)
  | none => ev = .returned (.bool false) ∧ w' = AsW w p
def AsEnd (w : World) (p : Nat) (t : Addr) (r : Option Int) : World := match r with
  | some e => ((AsW w p).alloc (.cells #[.int .i64 e] 22)).setCell t (.int .i64 e)
  | none => AsW w p
theorem as40_eq (w : World) (p : Nat) (t : Addr) (r : Option Int) : As40Post w p t r = fun ev w' => ev = .returned (.bool r.isSome) ∧ w' = AsEnd w p t r := by
  cases r <;> rfl
set_option maxHeartbeats 4000000 in
set_option maxRecDepth 20000 in
theorem as40 (v : Value) (n : Nat) (r : Option Int) (l : List ByteArray) (p : Nat) (t : Addr) (old : Value) (w : World) (hC : Ch w v n r l) (hp : w.cell? ⟨p, 0, none⟩ = some (.pointer (some t))) (ht : w.cell? t = some old) (hf : w.frozen? t = false) :
    Calls Tryd.prog 40 #[v, .iface 73 (.pointer (some t)), (.agg #[.pointer (some ⟨4, 73, none⟩), .pointer (some ⟨p, 0, none⟩), .int .u64 150]), .iface 93 (.agg #[.pointer (some ⟨4, 22, none⟩)])] w (As40Post w p t r) := by
  have h42 := @run_callFunc_extern Tryd.prog 42 _ ReflectliteType.typeOf Tryd.func42 (by kernel_rfl) (by kernel_rfl) (by kernel_rfl) (by kernel_rfl)
  have h84 := @run_callFunc_extern Tryd.prog 84 _ (ReflectliteType.relation "AssignableTo" ReflectliteType.assignableTo) Tryd.func84 (by kernel_rfl) (by kernel_rfl) (by kernel_rfl) (by kernel_rfl)
  have h37 := @run_callFunc_extern Tryd.prog 37 _ (fun args => ReflectliteValue.unpack (args.getD 0 (.tuple #[]))) Tryd.func37 (by kernel_rfl) (by kernel_rfl) (by kernel_rfl) (by kernel_rfl)
  have h45 := @run_callFunc_extern Tryd.prog 45 _ (ReflectliteValue.method (ReflectliteValue.valueError "reflectlite.Value.Elem" 0) ReflectliteValue.elem) Tryd.func45 (by kernel_rfl) (by kernel_rfl) (by kernel_rfl) (by kernel_rfl)
  have h46 := @run_callFunc_extern Tryd.prog 46 _ ReflectliteValue.set Tryd.func46 (by kernel_rfl) (by kernel_rfl) (by kernel_rfl) (by kernel_rfl)
  have q1 := methodAssignableTo
  have t22 := typeOf22
  have a22 := assignable22_22
  have s22 := asAs22
  have t40 := typeOf40
  have a40 := assignable40_22
  have s40 := asAs40
  have t50 := typeOf50
  have a50 := assignable50_22
  have s50 := asAs50
  have t88 := typeOf88
  have a88 := assignable88_22
  have s88 := asAs88
  have u40 := asUn40
  have u50 := asUn50
  have u88 := asUn88
  have z88 := asUns88
  have m40 := methodUnwrap40
  have m50 := methodUnwrap50
  have q3 := valueOf22
  have hpl : p < w.heap.size := World.block_lt_of_cell? w ⟨p, 0, none⟩ hp
  have htl : t.block < w.heap.size := World.block_lt_of_cell? w t ht
  obtain ⟨W, hWe⟩ : ∃ W, W = AsW w p := ⟨_, rfl⟩
  have hp1 : W.cell? ⟨p, 0, none⟩ = some (.pointer (some t)) := by rw [hWe]; unfold AsW; rw [World.cell?_alloc_lt _ _ ⟨p, 0, none⟩ hpl]; exact hp
  have ht1 : W.cell? t = some old := by rw [hWe]; unfold AsW; rw [World.cell?_alloc_lt _ _ t htl]; exact ht
  have hf1 : W.frozen? t = false := by rw [hWe]; unfold AsW; rw [World.frozen?_alloc_old _ _ t (Nat.ne_of_lt htl)]; exact hf
  have hV0 : W.heap[w.heap.size]? = some (.cells #[.pointer (some ⟨4, 73, none⟩), .pointer (some ⟨p, 0, none⟩), .int .u64 150] 77) := by rw [hWe]; unfold AsW; exact heap_new w _
  have hV1 : W.cell? ⟨w.heap.size, 0, none⟩ = some (.pointer (some ⟨4, 73, none⟩)) := by simp only [World.cell?, hV0]; rfl
  have hV2 : W.cell? ⟨w.heap.size, 1, none⟩ = some (.pointer (some ⟨p, 0, none⟩)) := by simp only [World.cell?, hV0]; rfl
  have hV3 : W.cell? ⟨w.heap.size, 2, none⟩ = some (.int .u64 150) := by simp only [World.cell?, hV0]; rfl
  clear hV0
  have el := elemV73 ⟨p, 0, none⟩ t W hp1
  have hC1 : Ch W v n r l := hC.on (by rw [hWe]; unfold AsW; exact Below.alloc (Below.refl _ _) (Nat.le_refl _) _)
  have st : ∀ e : Int, (ReflectliteValue.set #[.agg #[.pointer (some ⟨4, 22, none⟩), .pointer (some t), .int .u64 386], .agg #[.pointer (some ⟨4, 22, none⟩), .pointer (some ⟨W.heap.size, 0, none⟩), .int .u64 130]]).run Tryd.prog (W.alloc (.cells #[.int .i64 e] 22)) = .ok (.tuple #[]) ((W.alloc (.cells #[.int .i64 e] 22)).setCell t (.int .i64 e)) := by
    intro e
    have htW : t.block < W.heap.size := World.block_lt_of_cell? W t ht1
    refine set22 t ⟨W.heap.size, 0, none⟩ e old (W.alloc (.cells #[.int .i64 e] 22)) ?_ ?_ ?_
    · have h := heap_new W (.cells #[.int .i64 e] 22); simp only [World.cell?, h]; rfl
    · rw [World.cell?_alloc_lt _ _ t htW]; exact ht1
    · rw [World.frozen?_alloc_old _ _ t (Nat.ne_of_lt htW)]; exact hf1
  have HC := Aside0.mk hC1
  clear hC hC1 hp ht hf
  go_enter Tryd.func40, Tryd.ntmps40
  have hWe2 := Aside0.mk hWe
  clear hpl htl
  go_wp2
  rw [show w.alloc (.cells #[.pointer (some ⟨4, 73, none⟩), .pointer (some ⟨p, 0, none⟩), .int .u64 150] 77) = W from hWe.symm]
  clear hWe
  go_loopw [0] (fun u wr => ∃ (m : Nat) (k : List ByteArray), wr = W ∧ Aside0 (Ch W u m r k)) (fun u _ => dep W u)
  case atStart => exact ⟨n, l, rfl, HC⟩
  case round =>
    obtain ⟨m, k, rfl, HC⟩ := hrel
    cases HC.out with
    | errno e =>
      have st1 := st e
      go_wp2
      go_ret
      exact ⟨rfl, by rw [hWe2.out]⟩
    | str b =>
      go_wp2
      go_ret
      exact ⟨rfl, hWe2.out⟩
    | bare b op c1 c2 =>
      go_wp2
      go_ret
      exact ⟨rfl, hWe2.out⟩
    | wrap b op v' m' r' k' c1 c2 c3 =>
      have HD := Aside0.mk c3
      obtain ⟨ty, x, hx⟩ := c3.iface
      subst hx
      have hm := Aside0.mk (dep_of c3)
      have hn := Aside0.mk (dep_of HC.out)
      clear c3 HC
      go_wp2
      go_roundw
      case rel => exact ⟨_, _, trivial, HD⟩
      case measure => show dep wr (Value.iface ty x) < _; rw [hm.out, hn.out]; omega
    | other b v' m' r' k' c1 c3 =>
      have HD := Aside0.mk c3
      obtain ⟨ty, x, hx⟩ := c3.iface
      subst hx
      have hm := Aside0.mk (dep_of c3)
      have hn := Aside0.mk (dep_of HC.out)
      clear c3 HC
      go_wp2
      go_roundw
      case rel => exact ⟨_, _, trivial, HD⟩
      case measure => show dep wr (Value.iface ty x) < _; rw [hm.out, hn.out]; omega
end Go.Proofs.YtfmmmojlnfndkaaDoor.As

namespace Go.Proofs.YtfmmmojlnfndkaaDoor.As
open Go.RowKit Go.Proofs.YtfmmmojlnfndkaaDoorW.PrintWords Go.Proofs.YtfmmmojlnfndkaaDoorW.PrintLast Go.Extern.Stop Go.Stop Go.Extern
set_option maxHeartbeats 4000000 in
set_option maxRecDepth 20000 in
theorem asCh (v : Value) (n : Nat) (r : Option Int) (l : List ByteArray) (t : Addr) (old : Value) (w : World) (hC : Ch w v n r l) (hg : w.cell? ⟨0, 0, none⟩ = some (.iface 93 (.agg #[.pointer (some ⟨4, 32, none⟩)]))) (ht0 : w.cell? t = some old) (hf0 : w.frozen? t = false) :
    Calls Tryd.prog 21 #[v, .iface 73 (.pointer (some t))] w (As40Post ((w.alloc (.cells #[.pointer (some t)] 73)).alloc (.cells #[.pointer (some ⟨4, 73, none⟩), .pointer (some ⟨w.heap.size, 0, none⟩), .int .u64 150] 77)) w.heap.size t r) := by
  have h37 := @run_callFunc_extern Tryd.prog 37 _ (fun args => ReflectliteValue.unpack (args.getD 0 (.tuple #[]))) Tryd.func37 (by kernel_rfl) (by kernel_rfl) (by kernel_rfl) (by kernel_rfl)
  have h38 := @run_callFunc_extern Tryd.prog 38 _ (ReflectliteValue.methodAny (ReflectliteValue.valueError "reflectlite.Value.Type" 0) (fun t _ _ _ => ReflectliteType.toType t)) Tryd.func38 (by kernel_rfl) (by kernel_rfl) (by kernel_rfl) (by kernel_rfl)
  have h39 := @run_callFunc_extern Tryd.prog 39 _ (ReflectliteValue.method (ReflectliteValue.valueError "reflectlite.Value.IsNil" 0) ReflectliteValue.isNil) Tryd.func39 (by kernel_rfl) (by kernel_rfl) (by kernel_rfl) (by kernel_rfl)
  have h74 := @run_callFunc_extern Tryd.prog 74 _ (ReflectliteType.abiMethod fun t => do pure (.int .u8 (← Rtype.kind t))) Tryd.func74 (by kernel_rfl) (by kernel_rfl) (by kernel_rfl) (by kernel_rfl)
  have h86 := @run_callFunc_extern Tryd.prog 86 _ (ReflectliteType.method ReflectliteType.elem) Tryd.func86 (by kernel_rfl) (by kernel_rfl) (by kernel_rfl) (by kernel_rfl)
  have h87 := @run_callFunc_extern Tryd.prog 87 _ (ReflectliteType.relation "Implements" ReflectliteType.implements_) Tryd.func87 (by kernel_rfl) (by kernel_rfl) (by kernel_rfl) (by kernel_rfl)
  have q0 := valueOf73
  have q1 := type73
  have q2 := methodKind
  have q3 := methodElem
  have q4 := methodImplements
  have q5 := kind73
  have q6 := kind22
  have q7 := elem73
  have q8 := implements22
  have n8 := isNil73 ⟨w.heap.size, 0, none⟩ t ((w.alloc (.cells #[.pointer (some t)] 73)).alloc (.cells #[.pointer (some ⟨4, 73, none⟩), .pointer (some ⟨w.heap.size, 0, none⟩), .int .u64 150] 77)) (by simp)
  have hlt : 0 < w.heap.size := World.block_lt_of_cell? w ⟨0, 0, none⟩ hg
  have htl : t.block < w.heap.size := World.block_lt_of_cell? w t ht0
  have hg2 : ((w.alloc (.cells #[.pointer (some t)] 73)).alloc (.cells #[.pointer (some ⟨4, 73, none⟩), .pointer (some ⟨w.heap.size, 0, none⟩), .int .u64 150] 77)).cell? ⟨0, 0, none⟩ = some (.iface 93 (.agg #[.pointer (some ⟨4, 32, none⟩)])) := by
    rw [World.cell?_alloc_lt _ _ ⟨0, 0, none⟩ (by simp), World.cell?_alloc_lt _ _ ⟨0, 0, none⟩ hlt]; exact hg
  have hp : ((w.alloc (.cells #[.pointer (some t)] 73)).alloc (.cells #[.pointer (some ⟨4, 73, none⟩), .pointer (some ⟨w.heap.size, 0, none⟩), .int .u64 150] 77)).cell? ⟨w.heap.size, 0, none⟩ = some (.pointer (some t)) := by
    rw [World.cell?_alloc_lt _ _ ⟨w.heap.size, 0, none⟩ (by simp)]; simp
  have ht2 : ((w.alloc (.cells #[.pointer (some t)] 73)).alloc (.cells #[.pointer (some ⟨4, 73, none⟩), .pointer (some ⟨w.heap.size, 0, none⟩), .int .u64 150] 77)).cell? t = some old := by
    rw [World.cell?_alloc_lt _ _ t (by simp; omega), World.cell?_alloc_lt _ _ t htl]; exact ht0
  have hf2 : ((w.alloc (.cells #[.pointer (some t)] 73)).alloc (.cells #[.pointer (some ⟨4, 73, none⟩), .pointer (some ⟨w.heap.size, 0, none⟩), .int .u64 150] 77)).frozen? t = false := by
    rw [World.frozen?_alloc_old _ _ t (by simp; omega), World.frozen?_alloc_old _ _ t (Nat.ne_of_lt htl)]; exact hf0
  have hb2 : Below w.heap.size w ((w.alloc (.cells #[.pointer (some t)] 73)).alloc (.cells #[.pointer (some ⟨4, 73, none⟩), .pointer (some ⟨w.heap.size, 0, none⟩), .int .u64 150] 77)) := Below.alloc (Below.alloc (Below.refl _ _) (Nat.le_refl _) _) (by simp) _
  have HA := as40 v n r l w.heap.size t old _ (hC.on hb2) hp ht2 hf2
  obtain ⟨tv, xv, hv⟩ := hC.iface
  clear hp ht2 hf2 hb2 hC
  subst hv
  rw [as40_eq] at HA ⊢
  obtain ⟨X, hX⟩ : ∃ X, X = AsEnd ((w.alloc (.cells #[.pointer (some t)] 73)).alloc (.cells #[.pointer (some ⟨4, 73, none⟩), .pointer (some ⟨w.heap.size, 0, none⟩), .int .u64 150] 77)) w.heap.size t r := ⟨_, rfl⟩
  rw [← hX] at HA ⊢
  obtain ⟨bb, hbb⟩ : ∃ bb, bb = r.isSome := ⟨_, rfl⟩
  rw [← hbb] at HA ⊢
  clear hX hbb
  go_enter Tryd.func21, Tryd.ntmps21
  go_wp2_with (fail)
  refine HA.mono ?_
  rintro ev w' ⟨rfl, rfl⟩
  all_goals (try go_wp2)
  go_ret
  exact ⟨rfl, rfl⟩
theorem asEnd_some (w : World) (e : Int) (X : World) (hX : X = AsEnd (((w.alloc (.cells #[.int .i64 0] 22)).alloc (.cells #[.pointer (some ⟨w.heap.size, 0, none⟩)] 73)).alloc (.cells #[.pointer (some ⟨4, 73, none⟩), .pointer (some ⟨(w.alloc (.cells #[.int .i64 0] 22)).heap.size, 0, none⟩), .int .u64 150] 77)) (w.alloc (.cells #[.int .i64 0] 22)).heap.size ⟨w.heap.size, 0, none⟩ (some e)) : X.cell? ⟨w.heap.size, 0, none⟩ = some (.int .i64 e) ∧ Below w.heap.size w X := by
  subst hX
  exact (post_of e w _ _ _ _).2
theorem asEnd_none (w : World) (X : World) (hX : X = AsEnd (((w.alloc (.cells #[.int .i64 0] 22)).alloc (.cells #[.pointer (some ⟨w.heap.size, 0, none⟩)] 73)).alloc (.cells #[.pointer (some ⟨4, 73, none⟩), .pointer (some ⟨(w.alloc (.cells #[.int .i64 0] 22)).heap.size, 0, none⟩), .int .u64 150] 77)) (w.alloc (.cells #[.int .i64 0] 22)).heap.size ⟨w.heap.size, 0, none⟩ none) : Below w.heap.size w X := by
  subst hX
  show Below _ _ (AsW _ _)
  unfold AsW
  repeat (refine Below.alloc ?_ (by simp <;> omega) _)
  exact Below.refl _ _
/-- What fault.Of tells of a chain. -/
def ofR : Option Int → Int
  | some e => e
  | none => 5
set_option maxRecDepth 20000 in
theorem ofCh (v : Value) (n : Nat) (r : Option Int) (l : List ByteArray) (w : World) (hC : Ch w v n r l) (hg : w.cell? ⟨0, 0, none⟩ = some (.iface 93 (.agg #[.pointer (some ⟨4, 32, none⟩)]))) :
    Calls Tryd.prog 18 #[v] w fun ev w' => ev = .returned (.int .i64 (ofR r)) ∧ Below w.heap.size w w' := by
  have hlt : 0 < w.heap.size := World.block_lt_of_cell? w ⟨0, 0, none⟩ hg
  have h0 : (w.alloc (.cells #[.int .i64 0] 22)).cell? ⟨0, 0, none⟩ = some (.iface 93 (.agg #[.pointer (some ⟨4, 32, none⟩)])) := by
    rw [World.cell?_alloc_lt _ _ ⟨0, 0, none⟩ hlt]; exact hg
  have h1 : (w.alloc (.cells #[.int .i64 0] 22)).cell? ⟨w.heap.size, 0, none⟩ = some (.int .i64 0) := by simp
  have hA := asCh v n r l ⟨w.heap.size, 0, none⟩ (.int .i64 0) (w.alloc (.cells #[.int .i64 0] 22)) (hC.on (Below.alloc (Below.refl _ _) (Nat.le_refl _) _)) h0 h1 (frz w 0)
  obtain ⟨tv, xv, hv⟩ := hC.iface
  subst hv
  clear hg h0 h1 hlt hC
  rw [as40_eq] at hA
  cases r with
  | some e =>
    obtain ⟨X, hX⟩ : ∃ X, X = AsEnd (((w.alloc (.cells #[.int .i64 0] 22)).alloc (.cells #[.pointer (some ⟨w.heap.size, 0, none⟩)] 73)).alloc (.cells #[.pointer (some ⟨4, 73, none⟩), .pointer (some ⟨(w.alloc (.cells #[.int .i64 0] 22)).heap.size, 0, none⟩), .int .u64 150] 77)) (w.alloc (.cells #[.int .i64 0] 22)).heap.size ⟨w.heap.size, 0, none⟩ (some e) := ⟨_, rfl⟩
    rw [← hX] at hA
    obtain ⟨hc, hb⟩ := asEnd_some w e X hX
    have HB := Aside0.mk hb
    clear hX hb
    go_enter Tryd.func18, Tryd.ntmps18
    go_wp2_with (first | ((with_reducible refine gate_callee (f := 21) rfl ?_); refine goesL_ (some 8) rfl rfl Tryd.func21 (by kernel_rfl) rfl #[.iface tv xv, .iface 73 (.pointer (some ⟨w.heap.size, 0, none⟩))] rfl (by (try simp only [List.map_toArray, List.map_cons, List.map_nil]); first | done | rfl) ?_; (with_reducible refine (hA).mono ?_); rintro e' w' ⟨rfl, rfl⟩; refine ⟨_, rfl, ?_⟩))
    all_goals (try go_wp2)
    all_goals (try (go_ret; exact ⟨rfl, HB.out⟩))
  | none =>
    obtain ⟨X, hX⟩ : ∃ X, X = AsEnd (((w.alloc (.cells #[.int .i64 0] 22)).alloc (.cells #[.pointer (some ⟨w.heap.size, 0, none⟩)] 73)).alloc (.cells #[.pointer (some ⟨4, 73, none⟩), .pointer (some ⟨(w.alloc (.cells #[.int .i64 0] 22)).heap.size, 0, none⟩), .int .u64 150] 77)) (w.alloc (.cells #[.int .i64 0] 22)).heap.size ⟨w.heap.size, 0, none⟩ none := ⟨_, rfl⟩
    rw [← hX] at hA
    have HB := Aside0.mk (asEnd_none w X hX)
    clear hX
    go_enter Tryd.func18, Tryd.ntmps18
    go_wp2_with (first | ((with_reducible refine gate_callee (f := 21) rfl ?_); refine goesL_ (some 8) rfl rfl Tryd.func21 (by kernel_rfl) rfl #[.iface tv xv, .iface 73 (.pointer (some ⟨w.heap.size, 0, none⟩))] rfl (by (try simp only [List.map_toArray, List.map_cons, List.map_nil]); first | done | rfl) ?_; (with_reducible refine (hA).mono ?_); rintro e' w' ⟨rfl, rfl⟩; refine ⟨_, rfl, ?_⟩))
    all_goals (try go_wp2)
    all_goals (try (go_ret; exact ⟨rfl, HB.out⟩))
theorem ofNil (w : World) : Calls Tryd.prog 18 #[.nilIface] w fun ev w' => ev = .returned (.int .i64 0) ∧ w' = w := by
  go_enter Tryd.func18, Tryd.ntmps18
  go_wp2
  go_ret
  exact ⟨rfl, rfl⟩
end Go.Proofs.YtfmmmojlnfndkaaDoor.As

namespace Go.Proofs.YtfmmmojlnfndkaaDoor.As
open Go.RowKit Go.Proofs.YtfmmmojlnfndkaaDoorW.PrintWords Go.Proofs.YtfmmmojlnfndkaaDoorW.PrintLast Go.Extern.Stop Go.Stop Go.Extern
def AsV (w : World) (p : Nat) : World := w.alloc (.cells #[.pointer (some ⟨4, 42, none⟩), .pointer (some ⟨p, 0, none⟩), .int .u64 150] 77)
/-- The first *fault.Error of a chain: what it did, what it wraps. -/
def Top (w : World) (n : Nat) (r : Option Int) (op : ByteArray) (l : List ByteArray) (b : Nat) : Prop := w.cell? ⟨b, 0, none⟩ = some (.string op) ∧ ((w.cell? ⟨b, 2, none⟩ = some .nilIface ∧ l = [] ∧ r = none) ∨ ∃ v m, m < n ∧ w.cell? ⟨b, 2, none⟩ = some v ∧ Ch w v m r l)
def As42Post (w0 : World) (n : Nat) (w : World) (p : Nat) (t : Addr) (r : Option Int) (l : List ByteArray) (ev : Ending) (w' : World) : Prop := match l with
  | [] => ev = .returned (.bool false) ∧ w' = AsV w p
  | op :: l' => ∃ b, Top w0 n r op l' b ∧ ev = .returned (.bool true) ∧ w' = ((AsV w p).alloc (.cells #[.pointer (some ⟨b, 0, none⟩)] 40)).setCell t (.pointer (some ⟨b, 0, none⟩))
set_option maxHeartbeats 4000000 in
set_option maxRecDepth 20000 in
theorem as42 (w0 : World) (v : Value) (n : Nat) (r : Option Int) (l : List ByteArray) (p : Nat) (t : Addr) (old : Value) (w : World) (hC : Ch w0 v n r l) (h0 : Below w0.heap.size w0 w) (hp : w.cell? ⟨p, 0, none⟩ = some (.pointer (some t))) (ht : w.cell? t = some old) (hf : w.frozen? t = false) :
    Calls Tryd.prog 40 #[v, .iface 42 (.pointer (some t)), (.agg #[.pointer (some ⟨4, 42, none⟩), .pointer (some ⟨p, 0, none⟩), .int .u64 150]), .iface 93 (.agg #[.pointer (some ⟨4, 40, none⟩)])] w (As42Post w0 n w p t r l) := by
  have h42 := @run_callFunc_extern Tryd.prog 42 _ ReflectliteType.typeOf Tryd.func42 (by kernel_rfl) (by kernel_rfl) (by kernel_rfl) (by kernel_rfl)
  have h84 := @run_callFunc_extern Tryd.prog 84 _ (ReflectliteType.relation "AssignableTo" ReflectliteType.assignableTo) Tryd.func84 (by kernel_rfl) (by kernel_rfl) (by kernel_rfl) (by kernel_rfl)
  have h37 := @run_callFunc_extern Tryd.prog 37 _ (fun args => ReflectliteValue.unpack (args.getD 0 (.tuple #[]))) Tryd.func37 (by kernel_rfl) (by kernel_rfl) (by kernel_rfl) (by kernel_rfl)
  have h45 := @run_callFunc_extern Tryd.prog 45 _ (ReflectliteValue.method (ReflectliteValue.valueError "reflectlite.Value.Elem" 0) ReflectliteValue.elem) Tryd.func45 (by kernel_rfl) (by kernel_rfl) (by kernel_rfl) (by kernel_rfl)
  have h46 := @run_callFunc_extern Tryd.prog 46 _ ReflectliteValue.set Tryd.func46 (by kernel_rfl) (by kernel_rfl) (by kernel_rfl) (by kernel_rfl)
  have q1 := methodAssignableTo
  have t22 := typeOf22
  have a22 := assignable22_40
  have t40 := typeOf40
  have a40 := assignable40_40
  have t50 := typeOf50
  have a50 := assignable50_40
  have t88 := typeOf88
  have a88 := assignable88_40
  have s22 := asAs22
  have s50 := asAs50
  have s88 := asAs88
  have u22 := isUn22
  have z22 := isUns22
  have u50 := asUn50
  have u88 := asUn88
  have z88 := asUns88
  have m50 := methodUnwrap50
  have q3 := valueOf40
  have hpl : p < w.heap.size := World.block_lt_of_cell? w ⟨p, 0, none⟩ hp
  have htl : t.block < w.heap.size := World.block_lt_of_cell? w t ht
  obtain ⟨W, hWe⟩ : ∃ W, W = AsV w p := ⟨_, rfl⟩
  have hp1 : W.cell? ⟨p, 0, none⟩ = some (.pointer (some t)) := by rw [hWe]; unfold AsV; rw [World.cell?_alloc_lt _ _ ⟨p, 0, none⟩ hpl]; exact hp
  have ht1 : W.cell? t = some old := by rw [hWe]; unfold AsV; rw [World.cell?_alloc_lt _ _ t htl]; exact ht
  have hf1 : W.frozen? t = false := by rw [hWe]; unfold AsV; rw [World.frozen?_alloc_old _ _ t (Nat.ne_of_lt htl)]; exact hf
  have hV0 : W.heap[w.heap.size]? = some (.cells #[.pointer (some ⟨4, 42, none⟩), .pointer (some ⟨p, 0, none⟩), .int .u64 150] 77) := by rw [hWe]; unfold AsV; exact heap_new w _
  have hV1 : W.cell? ⟨w.heap.size, 0, none⟩ = some (.pointer (some ⟨4, 42, none⟩)) := by simp only [World.cell?, hV0]; rfl
  have hV2 : W.cell? ⟨w.heap.size, 1, none⟩ = some (.pointer (some ⟨p, 0, none⟩)) := by simp only [World.cell?, hV0]; rfl
  have hV3 : W.cell? ⟨w.heap.size, 2, none⟩ = some (.int .u64 150) := by simp only [World.cell?, hV0]; rfl
  clear hV0
  have el := elemV42 ⟨p, 0, none⟩ t W hp1
  have HB0 : Aside0 (Below w0.heap.size w0 W) := Aside0.mk (by rw [hWe]; unfold AsV; exact Below.alloc h0 h0.size _)
  have st : ∀ e : Addr, (ReflectliteValue.set #[.agg #[.pointer (some ⟨4, 40, none⟩), .pointer (some t), .int .u64 406], .agg #[.pointer (some ⟨4, 40, none⟩), .pointer (some ⟨W.heap.size, 0, none⟩), .int .u64 150]]).run Tryd.prog (W.alloc (.cells #[.pointer (some e)] 40)) = .ok (.tuple #[]) ((W.alloc (.cells #[.pointer (some e)] 40)).setCell t (.pointer (some e))) := by
    intro e
    have htW : t.block < W.heap.size := World.block_lt_of_cell? W t ht1
    refine set40 t ⟨W.heap.size, 0, none⟩ e old (W.alloc (.cells #[.pointer (some e)] 40)) ?_ ?_ ?_
    · have h := heap_new W (.cells #[.pointer (some e)] 40); simp only [World.cell?, h]; rfl
    · rw [World.cell?_alloc_lt _ _ t htW]; exact ht1
    · rw [World.frozen?_alloc_old _ _ t (Nat.ne_of_lt htW)]; exact hf1
  have HC := Aside0.mk hC
  clear hC hp ht hf h0
  go_enter Tryd.func40, Tryd.ntmps40
  have hWe2 := Aside0.mk hWe
  clear hpl htl
  go_wp2
  rw [show w.alloc (.cells #[.pointer (some ⟨4, 42, none⟩), .pointer (some ⟨p, 0, none⟩), .int .u64 150] 77) = W from hWe.symm]
  clear hWe
  go_loopw [0] (fun u wr => ∃ (m : Nat), wr = W ∧ m ≤ n ∧ Aside0 (Ch w0 u m r l)) (fun u _ => dep w0 u)
  case atStart => exact ⟨n, rfl, Nat.le_refl _, HC⟩
  case round =>
    obtain ⟨m, rfl, hmn, HC⟩ := hrel
    have HN := Aside0.mk hmn
    clear hmn
    cases HC.out with
    | errno e =>
      go_wp2
      go_ret
      exact ⟨rfl, hWe2.out⟩
    | str b =>
      go_wp2
      go_ret
      exact ⟨rfl, hWe2.out⟩
    | bare b op c1 c2 =>
      have HT : Aside0 (Top w0 n none op [] b) := Aside0.mk ⟨c1, .inl ⟨c2, rfl, rfl⟩⟩
      have st1 := st ⟨b, 0, none⟩
      clear c1 c2 HC
      go_wp2
      go_ret
      exact ⟨b, HT.out, rfl, by rw [hWe2.out]⟩
    | wrap b op v' m' r' k' c1 c2 c3 =>
      have HT : Aside0 (Top w0 n r op k' b) := Aside0.mk ⟨c1, .inr ⟨v', m', by have := HN.out; omega, c2, c3⟩⟩
      have st1 := st ⟨b, 0, none⟩
      clear c1 c2 c3 HC
      go_wp2
      go_ret
      exact ⟨b, HT.out, rfl, by rw [hWe2.out]⟩
    | other b v' m' r' k' c1 c3 =>
      have HD := Aside0.mk c3
      obtain ⟨ty, x, hx⟩ := c3.iface
      subst hx
      have hm := Aside0.mk (dep_of c3)
      have hn := Aside0.mk (dep_of HC.out)
      have c9 := cell_below HB0.out c1
      clear c3 HC c1
      go_wp2
      go_roundw
      case rel => exact ⟨_, trivial, by have := HN.out; omega, HD⟩
      case measure => show dep w0 (Value.iface ty x) < _; rw [hm.out, hn.out]; omega
set_option maxHeartbeats 4000000 in
set_option maxRecDepth 20000 in
theorem asCh42 (w0 : World) (v : Value) (n : Nat) (r : Option Int) (l : List ByteArray) (t : Addr) (old : Value) (w : World) (hC : Ch w0 v n r l) (h0 : Below w0.heap.size w0 w) (hg : w.cell? ⟨0, 0, none⟩ = some (.iface 93 (.agg #[.pointer (some ⟨4, 32, none⟩)]))) (ht0 : w.cell? t = some old) (hf0 : w.frozen? t = false) :
    Calls Tryd.prog 21 #[v, .iface 42 (.pointer (some t))] w (As42Post w0 n ((w.alloc (.cells #[.pointer (some t)] 42)).alloc (.cells #[.pointer (some ⟨4, 42, none⟩), .pointer (some ⟨w.heap.size, 0, none⟩), .int .u64 150] 77)) w.heap.size t r l) := by
  have h37 := @run_callFunc_extern Tryd.prog 37 _ (fun args => ReflectliteValue.unpack (args.getD 0 (.tuple #[]))) Tryd.func37 (by kernel_rfl) (by kernel_rfl) (by kernel_rfl) (by kernel_rfl)
  have h38 := @run_callFunc_extern Tryd.prog 38 _ (ReflectliteValue.methodAny (ReflectliteValue.valueError "reflectlite.Value.Type" 0) (fun t _ _ _ => ReflectliteType.toType t)) Tryd.func38 (by kernel_rfl) (by kernel_rfl) (by kernel_rfl) (by kernel_rfl)
  have h39 := @run_callFunc_extern Tryd.prog 39 _ (ReflectliteValue.method (ReflectliteValue.valueError "reflectlite.Value.IsNil" 0) ReflectliteValue.isNil) Tryd.func39 (by kernel_rfl) (by kernel_rfl) (by kernel_rfl) (by kernel_rfl)
  have h74 := @run_callFunc_extern Tryd.prog 74 _ (ReflectliteType.abiMethod fun t => do pure (.int .u8 (← Rtype.kind t))) Tryd.func74 (by kernel_rfl) (by kernel_rfl) (by kernel_rfl) (by kernel_rfl)
  have h86 := @run_callFunc_extern Tryd.prog 86 _ (ReflectliteType.method ReflectliteType.elem) Tryd.func86 (by kernel_rfl) (by kernel_rfl) (by kernel_rfl) (by kernel_rfl)
  have h87 := @run_callFunc_extern Tryd.prog 87 _ (ReflectliteType.relation "Implements" ReflectliteType.implements_) Tryd.func87 (by kernel_rfl) (by kernel_rfl) (by kernel_rfl) (by kernel_rfl)
  have q0 := valueOf42
  have q1 := type42
  have q2 := methodKind
  have q3 := methodElem
  have q4 := methodImplements
  have q5 := kind42
  have q6 := kind40
  have q7 := elem42
  have q8 := implements40
  have n8 := isNil42 ⟨w.heap.size, 0, none⟩ t ((w.alloc (.cells #[.pointer (some t)] 42)).alloc (.cells #[.pointer (some ⟨4, 42, none⟩), .pointer (some ⟨w.heap.size, 0, none⟩), .int .u64 150] 77)) (by simp)
  have hlt : 0 < w.heap.size := World.block_lt_of_cell? w ⟨0, 0, none⟩ hg
  have htl : t.block < w.heap.size := World.block_lt_of_cell? w t ht0
  have hg2 : ((w.alloc (.cells #[.pointer (some t)] 42)).alloc (.cells #[.pointer (some ⟨4, 42, none⟩), .pointer (some ⟨w.heap.size, 0, none⟩), .int .u64 150] 77)).cell? ⟨0, 0, none⟩ = some (.iface 93 (.agg #[.pointer (some ⟨4, 32, none⟩)])) := by
    rw [World.cell?_alloc_lt _ _ ⟨0, 0, none⟩ (by simp), World.cell?_alloc_lt _ _ ⟨0, 0, none⟩ hlt]; exact hg
  have hp : ((w.alloc (.cells #[.pointer (some t)] 42)).alloc (.cells #[.pointer (some ⟨4, 42, none⟩), .pointer (some ⟨w.heap.size, 0, none⟩), .int .u64 150] 77)).cell? ⟨w.heap.size, 0, none⟩ = some (.pointer (some t)) := by
    rw [World.cell?_alloc_lt _ _ ⟨w.heap.size, 0, none⟩ (by simp)]; simp
  have ht2 : ((w.alloc (.cells #[.pointer (some t)] 42)).alloc (.cells #[.pointer (some ⟨4, 42, none⟩), .pointer (some ⟨w.heap.size, 0, none⟩), .int .u64 150] 77)).cell? t = some old := by
    rw [World.cell?_alloc_lt _ _ t (by simp; omega), World.cell?_alloc_lt _ _ t htl]; exact ht0
  have hf2 : ((w.alloc (.cells #[.pointer (some t)] 42)).alloc (.cells #[.pointer (some ⟨4, 42, none⟩), .pointer (some ⟨w.heap.size, 0, none⟩), .int .u64 150] 77)).frozen? t = false := by
    rw [World.frozen?_alloc_old _ _ t (by simp; omega), World.frozen?_alloc_old _ _ t (Nat.ne_of_lt htl)]; exact hf0
  have hb2 : Below w.heap.size w ((w.alloc (.cells #[.pointer (some t)] 42)).alloc (.cells #[.pointer (some ⟨4, 42, none⟩), .pointer (some ⟨w.heap.size, 0, none⟩), .int .u64 150] 77)) := Below.alloc (Below.alloc (Below.refl _ _) (Nat.le_refl _) _) (by simp) _
  have HA := as42 w0 v n r l w.heap.size t old _ hC (below_step h0 hb2) hp ht2 hf2
  obtain ⟨tv, xv, hv⟩ := hC.iface
  clear hp ht2 hf2 hb2 hC h0
  subst hv
  cases l with
  | nil =>
    have HA : Calls _ _ _ _ (fun ev w' => ev = .returned (.bool false) ∧ w' = AsV _ _) := HA
    show Calls _ _ _ _ (fun ev w' => ev = .returned (.bool false) ∧ w' = AsV ((w.alloc (.cells #[.pointer (some t)] 42)).alloc (.cells #[.pointer (some ⟨4, 42, none⟩), .pointer (some ⟨w.heap.size, 0, none⟩), .int .u64 150] 77)) w.heap.size)
    obtain ⟨X, hX⟩ : ∃ X, X = AsV ((w.alloc (.cells #[.pointer (some t)] 42)).alloc (.cells #[.pointer (some ⟨4, 42, none⟩), .pointer (some ⟨w.heap.size, 0, none⟩), .int .u64 150] 77)) w.heap.size := ⟨_, rfl⟩
    rw [← hX] at HA ⊢
    clear hX
    go_enter Tryd.func21, Tryd.ntmps21
    go_wp2_with (fail)
    refine HA.mono ?_
    rintro ev w' ⟨rfl, rfl⟩
    all_goals (try go_wp2)
    go_ret
    exact ⟨rfl, rfl⟩
  | cons op l' =>
    have HA : Calls _ _ _ _ (fun ev w' => ∃ b, Top w0 n r op l' b ∧ ev = .returned (.bool true) ∧ w' = ((AsV _ _).alloc (.cells #[.pointer (some ⟨b, 0, none⟩)] 40)).setCell t (.pointer (some ⟨b, 0, none⟩))) := HA
    show Calls _ _ _ _ (fun ev w' => ∃ b, Top w0 n r op l' b ∧ ev = .returned (.bool true) ∧ w' = ((AsV ((w.alloc (.cells #[.pointer (some t)] 42)).alloc (.cells #[.pointer (some ⟨4, 42, none⟩), .pointer (some ⟨w.heap.size, 0, none⟩), .int .u64 150] 77)) w.heap.size).alloc (.cells #[.pointer (some ⟨b, 0, none⟩)] 40)).setCell t (.pointer (some ⟨b, 0, none⟩)))
    go_enter Tryd.func21, Tryd.ntmps21
    go_wp2_with (fail)
    refine HA.mono ?_
    rintro ev w' ⟨b, hT, rfl, hw'⟩
    have HT := Aside0.mk hT
    have HW := Aside0.mk hw'
    clear hT hw'
    all_goals (try go_wp2)
    go_ret
    exact ⟨b, HT.out, rfl, HW.out⟩
end Go.Proofs.YtfmmmojlnfndkaaDoor.As

namespace Go.Proofs.YtfmmmojlnfndkaaDoor.As
open Go.RowKit Go.Proofs.YtfmmmojlnfndkaaDoorW.PrintWords Go.Proofs.YtfmmmojlnfndkaaDoorW.PrintLast Go.Extern.Stop Go.Stop Go.Extern
set_option linter.unusedVariables false
set_option maxHeartbeats 4000000 in
set_option maxRecDepth 20000 in
theorem is43 (v : Value) (n : Nat) (r : Option Int) (l : List ByteArray) (f : Int) (w : World) (hC : Ch w v n r l) :
    Calls Tryd.prog 43 #[v, .iface 22 (.int .i64 f), .bool true] w fun ev w' => ev = .returned (.bool (decide (r = some f))) ∧ w' = w := by
  have q2 := isNo22
  have q3 := isNo40
  have q4 := isNo50
  have q5 := isNo88
  have u22 := isUn22
  have z22 := isUns22
  have u88 := asUn88
  have z88 := asUns88
  have u40 := asUn40
  have u50 := asUn50
  have m40 := methodUnwrap40
  have m50 := methodUnwrap50
  have e40 := eql40_22
  have e50 := eql50_22
  have e88 := eql88_22
  have HC := Aside0.mk hC
  obtain ⟨tv, xv, hv⟩ := hC.iface
  clear hC
  go_enter Tryd.func43, Tryd.ntmps43
  go_wp2
  go_loopw [0] (fun u wr => ∃ (m : Nat) (k : List ByteArray), wr = w ∧ Aside0 (Ch w u m r k)) (fun u _ => dep w u)
  case atStart => exact ⟨n, l, rfl, HC⟩
  case round =>
    obtain ⟨m, k, rfl, HC⟩ := hrel
    cases HC.out with
    | errno e =>
      by_cases h : e = f
      · subst h
        have e22 := eql22 e e wr
        rw [show (e == e) = true from by simp] at e22
        go_wp2
        go_ret
        exact ⟨by simp, rfl⟩
      · have e22 := eql22 e f wr
        rw [show (e == f) = false from by simpa using h] at e22
        have h' := Aside0.mk h
        clear h
        go_wp2
        go_ret
        exact ⟨by have := h'.out; simp [this], rfl⟩
    | str b =>
      go_wp2
      go_ret
      exact ⟨by simp, rfl⟩
    | bare b op c1 c2 =>
      go_wp2
      go_ret
      exact ⟨by simp, rfl⟩
    | wrap b op v' m' r' k' c1 c2 c3 =>
      have HD := Aside0.mk c3
      obtain ⟨ty, x, hx⟩ := c3.iface
      subst hx
      have hm := Aside0.mk (dep_of c3)
      have hn := Aside0.mk (dep_of HC.out)
      clear c3 HC
      go_wp2
      go_roundw
      case rel => exact ⟨_, _, trivial, HD⟩
      case measure => show dep wr (Value.iface ty x) < _; rw [hm.out, hn.out]; omega
    | other b v' m' r' k' c1 c3 =>
      have HD := Aside0.mk c3
      obtain ⟨ty, x, hx⟩ := c3.iface
      subst hx
      have hm := Aside0.mk (dep_of c3)
      have hn := Aside0.mk (dep_of HC.out)
      clear c3 HC
      go_wp2
      go_roundw
      case rel => exact ⟨_, _, trivial, HD⟩
      case measure => show dep wr (Value.iface ty x) < _; rw [hm.out, hn.out]; omega
set_option maxRecDepth 20000 in
theorem isCh (v : Value) (n : Nat) (r : Option Int) (l : List ByteArray) (f : Int) (w : World) (hC : Ch w v n r l) :
    Calls Tryd.prog 26 #[v, .iface 22 (.int .i64 f)] w fun ev w' => ev = .returned (.bool (decide (r = some f))) ∧ w' = w := by
  have h42 := @run_callFunc_extern Tryd.prog 42 _ ReflectliteType.typeOf Tryd.func42 (by kernel_rfl) (by kernel_rfl) (by kernel_rfl) (by kernel_rfl)
  have h85 := call85
  have q0 := isTypeOf22
  have q2 := isMethodComparable
  have HA := is43 v n r l f w hC
  obtain ⟨tv, xv, hv⟩ := hC.iface
  subst hv
  clear hC
  obtain ⟨bb, hbb⟩ : ∃ bb, bb = decide (r = some f) := ⟨_, rfl⟩
  rw [← hbb] at HA ⊢
  clear hbb
  go_enter Tryd.func26, Tryd.ntmps26
  go_wp2_with (fail)
  refine HA.mono ?_
  rintro ev w' ⟨rfl, rfl⟩
  all_goals (try go_wp2)
  go_ret
  exact ⟨rfl, rfl⟩
/-! ### at an error of errors.New's -/
theorem isTypeOf88 (v : Value) (w : World) : (Extern.ReflectliteType.typeOf #[.iface 88 v]).run Tryd.prog w = .ok (.iface 93 (.agg #[.pointer (some ⟨4, 88, none⟩)])) w := by kernel_rfl
theorem isComparable88 (w : World) : ((ReflectliteType.method fun t => do Rtype.noPackHeld "Comparable" t; pure (.bool (← typeInfo t).comparable)) #[.agg #[.pointer (some ⟨4, 88, none⟩)]]).run Tryd.prog w = .ok (.bool true) w := by kernel_rfl
theorem call85b (w : World) : (callFunc 85 #[.agg #[.pointer (some ⟨4, 88, none⟩)]]).run Tryd.prog w = .ok (.value (.bool true)) w := by
  rw [@run_callFunc_extern Tryd.prog 85 _ (ReflectliteType.method fun t => do Rtype.noPackHeld "Comparable" t; pure (.bool (← typeInfo t).comparable)) Tryd.func85 (by kernel_rfl) (by kernel_rfl) (by kernel_rfl) (by kernel_rfl), isComparable88]
  rfl
theorem isComp88 : (Tryd.prog.info? 88).map (·.comparable) = some true := by kernel_rfl
theorem isSize90 : (Tryd.prog.info? 90).map (·.size) = some 1 := by kernel_rfl
theorem eql40_88 (p q : Value) (w : World) : (binOp .eql 32 (.iface 40 p) (.iface 88 q)).run Tryd.prog w = .ok (.bool false) w := run_eql_iface_types 40 88 p q Tryd.underlying32 (by decide) w
set_option maxRecDepth 20000 in
theorem isStr (b c : Nat) (w : World) (hb : w.cell? ⟨b, 2, none⟩ = some (.iface 88 (.pointer (some ⟨c, 0, none⟩)))) :
    Calls Tryd.prog 26 #[.iface 40 (.pointer (some ⟨b, 0, none⟩)), .iface 88 (.pointer (some ⟨c, 0, none⟩))] w fun ev w' => ev = .returned (.bool true) ∧ w' = w := by
  obtain ⟨i, hi, hcmp⟩ := Option.map_eq_some_iff.1 isComp88
  obtain ⟨j, hj, hjs⟩ := Option.map_eq_some_iff.1 isSize90
  have heq := run_eql_iface_ptr_same (P := Tryd.prog) w ⟨c, 0, none⟩ Tryd.underlying32 Tryd.underlying88 hi hcmp hj
  clear hi hcmp hj hjs
  have h42 := @run_callFunc_extern Tryd.prog 42 _ ReflectliteType.typeOf Tryd.func42 (by kernel_rfl) (by kernel_rfl) (by kernel_rfl) (by kernel_rfl)
  have h85 := call85b
  have q0 := isTypeOf88
  have q2 := isMethodComparable
  have q3 := isNo40
  have q4 := asUn40
  have q5 := methodUnwrap40
  have q7 := eql40_88 (.pointer (some ⟨b, 0, none⟩)) (.pointer (some ⟨c, 0, none⟩)) w
  go_enter Tryd.func26, Tryd.ntmps26
  go_wp2
  refine wp_loop_rounds 2 ?_
  rw [rounds_succ]
  go_wp2
  all_goals (try (rw [rounds_succ]; go_wp2))
  go_ret
  exact ⟨rfl, rfl⟩
end Go.Proofs.YtfmmmojlnfndkaaDoor.As

namespace Go.Proofs.YtfmmmojlnfndkaaDoor.As
open Go.RowKit Go.Proofs.YtfmmmojlnfndkaaDoorW.PrintWords Go.Proofs.YtfmmmojlnfndkaaDoorW.PrintLast Go.Extern.Stop Go.Stop Go.Extern
set_option linter.unusedVariables false
set_option linter.unusedSimpArgs false
set_option maxRecDepth 20000 in
theorem wrapCh (op what : ByteArray) (v : Value) (n : Nat) (r : Option Int) (l : List ByteArray) (w : World) (hC : Ch w v n r l) (he : ofR r ≠ 0) (hg : w.cell? ⟨0, 0, none⟩ = some (.iface 93 (.agg #[.pointer (some ⟨4, 32, none⟩)]))) :
    Calls Tryd.prog 25 #[.string op, .string what, v] w fun ev w' => ∃ b, ev = .returned (.iface 40 (.pointer (some ⟨b, 0, none⟩))) ∧ w.heap.size ≤ b ∧ w'.heap[b]? = some (.cells #[.string op, .string what, v] 46) ∧ Below w.heap.size w w' := by
  have hA := ofCh v n r l w hC hg
  have h0 : (ofR r == 0) = false := by simpa using he
  obtain ⟨x, hx⟩ : ∃ x, x = ofR r := ⟨_, rfl⟩
  rw [← hx] at hA h0
  obtain ⟨tv, xv, hv⟩ := hC.iface
  subst hv
  clear hg he hC hx
  go_enter Tryd.func25, Tryd.ntmps25
  go_wp2_with (first | ((with_reducible refine gate_callee (f := 18) rfl ?_); (refine gate_guard (by first | rfl | kernel_rfl) ?_); refine goesL_ (some 11) rfl rfl Tryd.func18 (by kernel_rfl) rfl #[.iface tv xv] rfl (by (try simp only [List.map_toArray, List.map_cons, List.map_nil]); first | done | rfl) ?_; (with_reducible refine (hA).mono ?_); rintro e' w' ⟨rfl, hb⟩; refine ⟨_, rfl, ?_⟩; have HB := Aside0.mk hb; clear hb))
  all_goals (try go_wp2)
  all_goals (try go_ret)
  all_goals (refine ⟨_, rfl, HB.out.size, heap_new _ _, Below.alloc HB.out HB.out.size _⟩)
/-- One link more. -/
theorem wrap_chain {op what : ByteArray} {v : Value} {n : Nat} {r : Option Int} {l : List ByteArray} {w w' : World} {b : Nat} (hC : Ch w v n r l) (hb : Below w.heap.size w w') (hh : w'.heap[b]? = some (.cells #[.string op, .string what, v] 46)) : Ch w' (.iface 40 (.pointer (some ⟨b, 0, none⟩))) (n + 1) r (op :: l) := by
  refine .wrap b op v n r l ?_ ?_ (hC.on hb)
  · simp only [World.cell?, hh]; rfl
  · simp only [World.cell?, hh]; rfl
/-! ### Ops -/
theorem info9 : (Tryd.prog.info? 9).map (fun i => (i.zero, i.size, i.bytes)) = some (some (.string ByteArray.empty), 1, 16) := by kernel_rfl
/-- What is left to tell: nil, or a chain. -/
def Rest (w : World) (n : Nat) (r : Option Int) (u : Value) (l : List ByteArray) : Prop := (u = .nilIface ∧ l = []) ∨ ∃ m, m < n ∧ Ch w u m r l
noncomputable def mOps (w : World) (u : Value) : Nat := match u with
  | .nilIface => 0
  | _ => dep w u + 1
theorem topCells {w : World} {n : Nat} {r : Option Int} {op : ByteArray} {l : List ByteArray} {b : Nat} (h : Top w n r op l b) : w.cell? ⟨b, 0, none⟩ = some (.string op) ∧ ∃ v2, w.cell? ⟨b, 2, none⟩ = some v2 ∧ Rest w n r v2 l := by
  obtain ⟨h0, ⟨h1, h2, h3⟩ | ⟨v, m, h1, h2, h3⟩⟩ := h
  · exact ⟨h0, _, h1, .inl ⟨rfl, h2⟩⟩
  · exact ⟨h0, v, h2, .inr ⟨m, h1, h3⟩⟩
theorem opsNo {w X : World} (h : X = AsV (((w.alloc (.cells #[.pointer none] 40)).alloc (.cells #[.pointer (some ⟨w.heap.size, 0, none⟩)] 42)).alloc (.cells #[.pointer (some ⟨4, 42, none⟩), .pointer (some ⟨(w.alloc (.cells #[.pointer none] 40)).heap.size, 0, none⟩), .int .u64 150] 77)) (w.alloc (.cells #[.pointer none] 40)).heap.size) : Below w.heap.size w X := by
  subst h
  unfold AsV
  repeat (refine Below.alloc ?_ (by simp <;> omega) _)
  exact Below.refl _ _
theorem opsYes {w X : World} {b : Nat} (h : X = ((AsV (((w.alloc (.cells #[.pointer none] 40)).alloc (.cells #[.pointer (some ⟨w.heap.size, 0, none⟩)] 42)).alloc (.cells #[.pointer (some ⟨4, 42, none⟩), .pointer (some ⟨(w.alloc (.cells #[.pointer none] 40)).heap.size, 0, none⟩), .int .u64 150] 77)) (w.alloc (.cells #[.pointer none] 40)).heap.size).alloc (.cells #[.pointer (some ⟨b, 0, none⟩)] 40)).setCell ⟨w.heap.size, 0, none⟩ (.pointer (some ⟨b, 0, none⟩))) : X.cell? ⟨w.heap.size, 0, none⟩ = some (.pointer (some ⟨b, 0, none⟩)) ∧ Below w.heap.size w X := by
  subst h
  unfold AsV
  refine ⟨?_, ?_⟩
  · have hx := one_setCell (u := .pointer (some ⟨b, 0, none⟩)) (heap_old (.cells #[.pointer (some ⟨b, 0, none⟩)] 40) (heap_old (.cells #[.pointer (some ⟨4, 42, none⟩), .pointer (some ⟨(w.alloc (.cells #[.pointer none] 40)).heap.size, 0, none⟩), .int .u64 150] 77) (heap_old (.cells #[.pointer (some ⟨4, 42, none⟩), .pointer (some ⟨(w.alloc (.cells #[.pointer none] 40)).heap.size, 0, none⟩), .int .u64 150] 77) (heap_old (.cells #[.pointer (some ⟨w.heap.size, 0, none⟩)] 42) (heap_new w (.cells #[.pointer none] 40))))))
    simp only [World.cell?, hx]
    rfl
  · refine Below.setCell (p := ⟨w.heap.size, 0, none⟩) ?_ (Nat.le_refl w.heap.size) _
    repeat (refine Below.alloc ?_ (by simp <;> omega) _)
    exact Below.refl _ _
/-- How fault.Ops ends. -/
def OpsPost (w : World) (l : List ByteArray) (ev : Ending) (w' : World) : Prop := ∃ v, ev = .returned v ∧ Kd.R Kd.string 9 w' w.heap.size (fun _ => True) v l ∧ Below w.heap.size w w'
set_option maxHeartbeats 4000000 in
set_option maxRecDepth 20000 in
theorem opsCh (v : Value) (n : Nat) (r : Option Int) (l : List ByteArray) (w : World) (hC : Rest w n r v l) (hl : l.length * 16 ≤ 140737488355328) (hg : w.cell? ⟨0, 0, none⟩ = some (.iface 93 (.agg #[.pointer (some ⟨4, 32, none⟩)]))) :
    Calls Tryd.prog 19 #[v] w (OpsPost w l) := by
  have HC := Aside0.mk hC
  have HG := Aside0.mk hg
  have HL := Aside0.mk hl
  clear hC hg hl
  go_enter Tryd.func19, Tryd.ntmps19
  go_wp2
  go_loopw [0, 3] (fun u out wr => ∃ (n : Nat) (done rest : List ByteArray) (u' out' : Value), u = u' ∧ out = out' ∧ Aside0 (l = done ++ rest) ∧ Aside0 (Kd.R Kd.string 9 wr w.heap.size (fun _ => True) out' done) ∧ Aside0 (Below w.heap.size w wr) ∧ Aside0 (Rest w n r u' rest)) (fun u _ _ => mOps w u)
  case atStart => exact ⟨n, [], l, _, _, rfl, rfl, ⟨rfl⟩, ⟨Kd.R_nil _ _ _ _ _⟩, ⟨Below.refl _ _⟩, HC⟩
  case round =>
    obtain ⟨n1, done, rest, u, out, h1, h2, HD, HR, HW, HC⟩ := hrel
    obtain rfl := h1.symm
    obtain rfl := h2.symm
    clear h1 h2
    rcases HC.out with ⟨rfl, hr⟩ | ⟨m, hm, hC⟩
    · have HE : Aside0 (l = done) := Aside0.mk (by rw [HD.out, hr, List.append_nil])
      clear hr
      go_wp2
      go_ret
      exact ⟨_, rfl, by rw [HE.out]; exact HR.out, HW.out⟩
    · have HM := Aside0.mk (dep_of hC)
      have hA := asCh42 w u m r rest ⟨wr.heap.size, 0, none⟩ (.pointer none) (wr.alloc (.cells #[.pointer none] 40)) hC (Below.alloc HW.out HW.out.size _)
        (by rw [World.cell?_alloc_lt _ _ ⟨0, 0, none⟩ (Nat.lt_of_lt_of_le (World.block_lt_of_cell? w ⟨0, 0, none⟩ HG.out) HW.out.size)]; exact cell_below HW.out HG.out)
        (by simp)
        (by have h := heap_new wr (.cells #[.pointer none] 40); simp only [World.frozen?, h]; rfl)
      obtain ⟨tv, xv, hv⟩ := hC.iface
      subst hv
      clear hC hm
      cases rest with
      | nil =>
        have hA : Calls _ _ _ _ (fun ev w' => ev = .returned (.bool false) ∧ w' = AsV _ _) := hA
        have HA := Aside0.mk hA
        have HE : Aside0 (l = done) := Aside0.mk (by rw [HD.out, List.append_nil])
        clear hA
        go_wp2_with (first | ((with_reducible refine gate_callee (f := 21) rfl ?_); refine goesL_ (some 9) rfl rfl Tryd.func21 (by kernel_rfl) rfl #[.iface tv xv, .iface 42 (.pointer (some ⟨wr.heap.size, 0, none⟩))] rfl (by (try simp only [List.map_toArray, List.map_cons, List.map_nil]); first | done | rfl) ?_; (with_reducible refine (HA.out).mono ?_); rintro e' w' ⟨rfl, hw'⟩; refine ⟨_, rfl, ?_⟩; have hb := opsNo hw'; clear hw'; have HR1 := Aside0.mk (Kd.R_below HR.out hb); have HW1 := Aside0.mk (below_step HW.out hb); clear hb))
        all_goals (try go_wp2)
        go_ret
        exact ⟨_, rfl, by rw [HE.out]; exact HR1.out, HW1.out⟩
      | cons op rest =>
        have hA : Calls _ _ _ _ (fun ev w' => ∃ b, Top w m r op rest b ∧ ev = .returned (.bool true) ∧ w' = ((AsV _ _).alloc (.cells #[.pointer (some ⟨b, 0, none⟩)] 40)).setCell _ (.pointer (some ⟨b, 0, none⟩))) := hA
        have HA := Aside0.mk hA
        clear hA
        have HY : Aside0 (some wr.heap.size ≠ out.ownBlock) := Aside0.mk fun e => absurd ((Kd.R_bound HR.out).1 _ e.symm).2.2.1 (Nat.lt_irrefl _)
        go_wp2_with (first | ((with_reducible refine gate_callee (f := 21) rfl ?_); refine goesL_ (some 9) rfl rfl Tryd.func21 (by kernel_rfl) rfl #[.iface tv xv, .iface 42 (.pointer (some ⟨wr.heap.size, 0, none⟩))] rfl (by (try simp only [List.map_toArray, List.map_cons, List.map_nil]); first | done | rfl) ?_; (with_reducible refine (HA.out).mono ?_); rintro e' w' ⟨b, hT, rfl, hw'⟩; refine ⟨_, rfl, ?_⟩; obtain ⟨hc, hb⟩ := opsYes hw'; clear hw'; have HR1 := Aside0.mk (Kd.R_below HR.out hb); have HW1 := Aside0.mk (below_step HW.out hb); clear hb; obtain ⟨k0, v2, k2, hs⟩ := topCells hT; have c0 := cell_below HW1.out k0; have c2 := cell_below HW1.out k2; have HK2 := Aside0.mk k2; clear k0 k2 hT; have HS := Aside0.mk hs; clear hs) | ((with_reducible refine gate_builtin (b := .append) (xs := #[.tmp 15, .tmp 20]) rfl ?_); at_builtin; refine Kd.R_append Kd.string (w0 := w) w.heap.size rfl (.tmp 15) (.tmp 20) 30 9 (.string ByteArray.empty) 16 rfl Tryd.underlying30 info9 rfl (by decide) (by omega) _ done op [.string op] (fun _ => True) (fun _ => False) rfl rfl ?aP (fun _ hk => hk.elim) (fun _ _ => trivial) HR1.out HW1.out HW1.out.size ?aL ?_; (case aP => exact rfl); (case aL => have := HL.out; have h2 := HD.out; rw [h2] at this; simp only [List.length_append, List.length_cons] at this; omega); intro v1 w1 ho hb hg hat; have HR2 := Aside0.mk ho; have HW2 := Aside0.mk hb; have hc1 := cell_grown hg hc HY.out; have c2b := cell_below HW2.out HK2.out; clear ho hb hg hat))
        all_goals (try go_wp2)
        go_roundw
        case rel => exact ⟨m, done ++ [op], rest, v2, v1, rfl, rfl, ⟨by rw [HD.out]; simp⟩, HR2, HW2, HS⟩
        case measure =>
          show mOps w v2 < mOps w (.iface tv xv)
          have h1 : mOps w (.iface tv xv) = m + 1 := by show dep w _ + 1 = _; rw [HM.out]
          rw [h1]
          rcases HS.out with ⟨rfl, _⟩ | ⟨m', hm', hC'⟩
          · exact Nat.succ_pos _
          · obtain ⟨t', x', rfl⟩ := hC'.iface
            show dep w _ + 1 < _
            rw [dep_of hC']
            omega
end Go.Proofs.YtfmmmojlnfndkaaDoor.As

namespace Go.Proofs.YtfmmmojlnfndkaaDoor.Z
open Go.RowKit Go.Proofs.YtfmmmojlnfndkaaDoorW.PrintWords Go.Proofs.YtfmmmojlnfndkaaDoorW.PrintLast Go.Proofs.YtfmmmojlnfndkaaDoorW.PrintMore
attribute [local go_sem] max2_int min2_int max_two min_two max_three min_three max_four min_four   -- for this text's walks alone
set_option linter.unusedVariables false
set_option linter.unusedSimpArgs false



def errW : Option Int → Value
  | none => .nilIface
  | some c => .iface 0 (.int .i64 c)
theorem errW_none : errW none = .nilIface := rfl
theorem errW_some (c : Int) : errW (some c) = .iface 0 (.int .i64 c) := rfl

theorem info9 : (Tryd.prog.info? 9).map (fun i => (i.zero, i.size, i.bytes)) = some (some (.string ⟨#[]⟩), 1, 16) := by kernel_rfl
-- the values' own types
theorem isEmpty_bne_ (l : List UInt8) : Ending.returned (.bool l.isEmpty) = Ending.returned (.bool (!(l != ([] : List UInt8)))) := by cases l <;> rfl

end Go.Proofs.YtfmmmojlnfndkaaDoor.Z

namespace Go.Proofs.YtfmmmojlnfndkaaDoor.Z
open Go.RowKit Go.Proofs.YtfmmmojlnfndkaaDoorW.PrintWords Go.Proofs.YtfmmmojlnfndkaaDoorW.PrintLast Go.Proofs.YtfmmmojlnfndkaaDoor.As
set_option maxHeartbeats 2000000
set_option linter.unusedVariables false
set_option linter.unusedSimpArgs false
theorem convOld {c : Int} {x : UInt8} (hx : c = (x.toNat : Int)) {w w' : World} (hb : Below (w.alloc (.cells #[.int .u8 c] 5)).heap.size (w.alloc (.cells #[.int .u8 c] 5)) w') : (convert 91 9 (.slice (some ⟨w.heap.size, 0, none⟩) 1 1)).run Tryd.prog w' = .ok (.string ⟨#[x]⟩) w' := by
  refine run_convert_bytes_back (P := Tryd.prog) _ 91 9 5 ⟨w.heap.size, 0, none⟩ 1 [x] Tryd.underlying91 Tryd.underlying5 Tryd.underlying9 fun j hj => ?_
  obtain rfl : j = 0 := by simp at hj; omega
  have h := heap_below hb (heap_new w (.cells #[.int .u8 c] 5))
  simp only [World.cell?, Addr.add, ↓reduceIte, h]
  rw [hx]
  rfl
set_option maxRecDepth 20000 in
theorem num_a (n d c : Int) (x : UInt8) (w : World) (hd : n.tmod 10 = d) (hc : wrap64 (48 + d) = c) (hx : c % 256 = (x.toNat : Int)) (hn : decide (n < 10) = true) :
    Calls Tryd.prog 47 #[.int .i64 n] w fun ev w' => ev = .returned (.string ⟨#[x]⟩) ∧ Below w.heap.size w w' := by
  have hv : ∀ w : World, (convert 91 9 (.slice (some ⟨w.heap.size, 0, none⟩) 1 1)).run Tryd.prog (w.alloc (.cells #[.int .u8 (c % 256)] 5)) = .ok (.string ⟨#[x]⟩) (w.alloc (.cells #[.int .u8 (c % 256)] 5)) := by
    intro w; rw [hx]; exact conv1 w x 5 1
  clear hx
  go_enter Tryd.func47, Tryd.ntmps47
  go_wp2
  go_ret
  exact ⟨rfl, Below.alloc (Below.refl _ _) (Nat.le_refl _) _⟩
set_option maxRecDepth 20000 in
theorem num_b (n d : Int) (x : UInt8) (rest : ByteArray) (w : World) (hd : n.tmod 10 = d) (hx : IntKind.u8.wrap (IntKind.i64.wrap (48 + d)) = (x.toNat : Int)) (hn : decide (n < 10) = false) (hs : ¬ 9223372036854775807 < rest.size + 1)
    (hI : Aside0 (∀ w, Calls Tryd.prog 47 #[.int .i64 (IntKind.i64.wrap (n.tdiv 10))] w fun ev w' => ev = .returned (.string rest) ∧ Below w.heap.size w w')) :
    Calls Tryd.prog 47 #[.int .i64 n] w fun ev w' => ev = .returned (.string (rest ++ ⟨#[x]⟩)) ∧ Below w.heap.size w w' := by
  have hv : ∀ w : World, (convert 91 9 (.slice (some ⟨w.heap.size, 0, none⟩) 1 1)).run Tryd.prog (w.alloc (.cells #[.int .u8 (IntKind.u8.wrap (IntKind.i64.wrap (48 + d)))] 5)) = .ok (.string ⟨#[x]⟩) (w.alloc (.cells #[.int .u8 (IntKind.u8.wrap (IntKind.i64.wrap (48 + d)))] 5)) := by
    intro w; rw [hx]; exact conv1 w x 5 1
  have hvd : ∀ w : World, (convert 91 9 (.slice (some ⟨w.heap.size, 0, none⟩) 1 1)).run Tryd.prog (w.alloc (.cells #[.int .u8 (IntKind.u8.wrap (IntKind.i64.wrap (48 + d)))] 5)).drew = .ok (.string ⟨#[x]⟩) (w.alloc (.cells #[.int .u8 (IntKind.u8.wrap (IntKind.i64.wrap (48 + d)))] 5)).drew := by
    intro w
    have h := convOld (c := IntKind.u8.wrap (IntKind.i64.wrap (48 + d))) (x := x) hx (w := w) (w' := (w.alloc (.cells #[.int .u8 (IntKind.u8.wrap (IntKind.i64.wrap (48 + d)))] 5)).drew) (below_drew (Below.refl _ _))
    exact h
  have HX := Aside0.mk hx
  clear hx
  go_enter Tryd.func47, Tryd.ntmps47
  go_upto_region 3 with (fail)
  go_region_law (first | (refine goes_ (f := 47) Tryd.func47 (by kernel_rfl) rfl #[.int .i64 (IntKind.i64.wrap (n.tdiv 10))] (by rfl) rfl rfl (by (try simp only [List.map_toArray, List.map_cons, List.map_nil]); first | done | rfl) ?_; (with_reducible refine (hI.out _).mono ?_); rintro e' w' ⟨rfl, hb⟩; refine ⟨_, rfl, ?_⟩; (try have hv2 : (convert 91 9 (.slice (some ⟨w.heap.size, 0, none⟩) 1 1)).run Tryd.prog w' = .ok (.string ⟨#[x]⟩) w' := convOld (w := w.drew) HX.out hb); have HB := Aside0.mk hb; clear hb))
  all_goals (try go_wp2)
  all_goals (try go_ret)
  all_goals (first | exact ⟨rfl, Below.alloc (below_step (below_drew (Below.refl w.heap.size w)) HB.out) (below_step (below_drew (Below.refl w.heap.size w)) HB.out).size _⟩ | exact ⟨rfl, below_step (below_drew (Below.alloc (Below.refl w.heap.size w) (Nat.le_refl _) _)) HB.out⟩)
/-- A digit's sign, as_ the program makes it. -/
def cg (n : Int) : UInt8 := UInt8.ofNat ((48 + n.tmod 10) % 256).toNat
def numS : Nat → Int → ByteArray
  | 0, _ => ⟨#[]⟩
  | k + 1, n => if n < 10 then ⟨#[cg n]⟩ else numS k (n.tdiv 10) ++ ⟨#[cg n]⟩
theorem numS_size : ∀ (k : Nat) (n : Int), (numS k n).size ≤ k := by
  intro k
  induction k with
  | zero => intro n; exact Nat.le_refl _
  | succ k ih =>
    intro n
    unfold numS
    have h1 : (⟨#[cg n]⟩ : ByteArray).size = 1 := rfl
    split
    · omega
    · rw [ByteArray.size_append]
      have := ih (n.tdiv 10)
      omega
theorem tmod_bounds (n : Int) : -9 ≤ n.tmod 10 ∧ n.tmod 10 ≤ 9 := by
  rcases Int.lt_or_le n 0 with h | h
  · rw [((Q.tqr n).2 h).2]; omega
  · rw [((Q.tqr n).1 h).2]; omega
theorem cg_toNat (n : Int) : ((cg n).toNat : Int) = (48 + n.tmod 10) % 256 := by
  have := tmod_bounds n
  unfold cg
  rw [UInt8.toNat_ofNat']
  omega
theorem num_calls : ∀ (k : Nat) (n : Int), k ≤ 100 → n < 10 ^ (k + 1) → -9223372036854775808 ≤ n → n ≤ 9223372036854775807 → ∀ w, Calls Tryd.prog 47 #[.int .i64 n] w fun ev w' => ev = .returned (.string (numS (k + 1) n)) ∧ Below w.heap.size w w' := by
  have base : ∀ (k : Nat) (n : Int), n < 10 → ∀ w, Calls Tryd.prog 47 #[.int .i64 n] w fun ev w' => ev = .returned (.string (numS (k + 1) n)) ∧ Below w.heap.size w w' := by
    intro k n h w
    have hb := tmod_bounds n
    unfold numS
    rw [if_pos h]
    exact num_a n (n.tmod 10) (48 + n.tmod 10) (cg n) w rfl (Q.w64 _ (by omega)) (by rw [cg_toNat]) (by simpa using h)
  intro k
  induction k with
  | zero => intro n _ hn _ _ w; exact base 0 n (by omega) w
  | succ k ih =>
    intro n hk hn h0 h1 w
    by_cases h : n < 10
    · exact base _ n h w
    · have hb := tmod_bounds n
      have hq := ((Q.tqr n).1 (by omega)).1
      have hw : IntKind.i64.wrap (n.tdiv 10) = n.tdiv 10 := by rw [i64_w]; exact Q.w64 _ (by rw [hq]; omega)
      have hI := ih (n.tdiv 10) (by omega) (by rw [Int.pow_succ] at hn; rw [hq]; omega) (by rw [hq]; omega) (by rw [hq]; omega)
      rw [← hw] at hI
      have hr := num_b n (n.tmod 10) (cg n) _ w rfl (by rw [i64_w, Q.w64 _ (by omega), cg_toNat]; exact IntKind.wrap_u8 _) (by simpa using h) (by have := numS_size (k + 1) (IntKind.i64.wrap (n.tdiv 10)); omega) (Aside0.mk hI)
      rw [hw] at hr
      rw [numS, if_neg h]
      exact hr
/-- The text of an errno. -/
def errTxt (e : Int) : ByteArray := (⟨#[112, 117, 109, 105, 99, 101, 32, 101, 114, 114, 111, 114, 32]⟩ : ByteArray) ++ numS 20 e
theorem errTxt_size (e : Int) : (errTxt e).size ≤ 40 := by
  unfold errTxt
  rw [ByteArray.size_append]
  have := numS_size 20 e
  have h : (⟨#[112, 117, 109, 105, 99, 101, 32, 101, 114, 114, 111, 114, 32]⟩ : ByteArray).size = 13 := rfl
  omega
set_option maxRecDepth 20000 in
theorem errno_calls (e : Int) (w : World) (h0 : -9223372036854775808 ≤ e) (h1 : e ≤ 9223372036854775807) : Calls Tryd.prog 41 #[.int .i64 e] w fun ev w' => ev = .returned (.string (errTxt e)) ∧ Below w.heap.size w w' := by
  have hA := num_calls 19 e (by omega) (by omega) h0 h1 w
  have hs : ¬ 9223372036854775807 < 13 + (numS 20 e).size := by have := numS_size 20 e; omega
  unfold errTxt
  obtain ⟨t, ht⟩ : ∃ t, t = numS 20 e := ⟨_, rfl⟩
  rw [← ht] at hA hs ⊢
  clear ht h0 h1
  go_enter Tryd.func41, Tryd.ntmps41
  go_wp2_with (fail)
  all_goals (refine hA.mono ?_; rintro ev w' ⟨rfl, hb⟩)
  all_goals (try go_wp2)
  all_goals (try go_ret)
  all_goals (exact ⟨rfl, hb⟩)
def errno_Error.f (e : Int) : Option ByteArray := if -9223372036854775808 ≤ e ∧ e ≤ 9223372036854775807 then some (errTxt e) else none
theorem errno_Error.calls (e : Int) (r : ByteArray) (w : World) (h : errno_Error.f e = some r) : Calls Tryd.prog 41 #[.int .i64 e] w fun ev w' => ev = .returned (.string r) ∧ Below w.heap.size w w' := by
  unfold errno_Error.f at h
  split at h
  · rename_i hh
    obtain rfl := Option.some.inj h
    exact errno_calls e w hh.1 hh.2
  · cases h
end Go.Proofs.YtfmmmojlnfndkaaDoor.Z

namespace Go.Proofs.YtfmmmojlnfndkaaDoor.As
open Go.RowKit Go.Proofs.YtfmmmojlnfndkaaDoorW.PrintWords Go.Proofs.YtfmmmojlnfndkaaDoorW.PrintLast Go.Extern.Stop Go.Stop Go.Extern
set_option linter.unusedVariables false
set_option linter.unusedSimpArgs false
/-- A chain of *fault.Error over an errno: what was done, with what. -/
inductive Cw (w : World) : Value → List (ByteArray × ByteArray) → Int → Prop
  | errno (e : Int) : Cw w (.iface 22 (.int .i64 e)) [] e
  | wrap (b : Nat) (op what : ByteArray) (v : Value) (l : List (ByteArray × ByteArray)) (e : Int) : w.heap[b]? = some (.cells #[.string op, .string what, v] 46) → Cw w v l e → Cw w (.iface 40 (.pointer (some ⟨b, 0, none⟩))) ((op, what) :: l) e
theorem Cw.on {w w' : World} {v : Value} {l : List (ByteArray × ByteArray)} {e : Int} (h : Cw w v l e) (hb : Below w.heap.size w w') : Cw w' v l e := by
  induction h with
  | errno e => exact .errno e
  | wrap b op what v l e h1 _ ih => exact .wrap b op what v l e (heap_below hb h1) ih
theorem Cw.iface {w : World} {v : Value} {l : List (ByteArray × ByteArray)} {e : Int} (h : Cw w v l e) : ∃ t x, v = .iface t x := by cases h <;> exact ⟨_, _, rfl⟩
theorem Cw.ch {w : World} {v : Value} {l : List (ByteArray × ByteArray)} {e : Int} (h : Cw w v l e) : Ch w v l.length (some e) (l.map (·.1)) := by
  induction h with
  | errno e => exact .errno e
  | wrap b op what v l e h1 _ ih => exact .wrap b op v l.length (some e) (l.map (·.1)) (by simp only [World.cell?, h1]; rfl) (by simp only [World.cell?, h1]; rfl) ih
/-- What is told of a chain. -/
def part (s : ByteArray) (p : ByteArray × ByteArray) : ByteArray := (if p.2.toList = [] then s ++ p.1 ++ ⟨#[32]⟩ else s ++ p.1 ++ ⟨#[32]⟩ ++ p.2 ++ ⟨#[32]⟩) ++ ⟨#[58, 32]⟩
def txtOf : List (ByteArray × ByteArray) → Int → ByteArray
  | [], e => Z.errTxt e
  | p :: l, e => part ⟨#[]⟩ p ++ txtOf l e
def big (l : List (ByteArray × ByteArray)) : Prop := ∀ p ∈ l, p.1.size ≤ 1048576 ∧ p.2.size ≤ 1048576
theorem part_size (s : ByteArray) (p : ByteArray × ByteArray) (h : p.1.size ≤ 1048576 ∧ p.2.size ≤ 1048576) : (part s p).size ≤ s.size + 2097156 := by
  unfold part
  have h1 : (⟨#[32]⟩ : ByteArray).size = 1 := rfl
  have h2 : (⟨#[58, 32]⟩ : ByteArray).size = 2 := rfl
  split <;> simp only [ByteArray.size_append, h1, h2] <;> omega
theorem txtOf_size : ∀ (l : List (ByteArray × ByteArray)) (e : Int), big l → (txtOf l e).size ≤ 2097156 * l.length + 40 := by
  intro l
  induction l with
  | nil => intro e _; exact Z.errTxt_size e
  | cons p l ih =>
    intro e h
    unfold txtOf
    rw [ByteArray.size_append]
    have h1 := part_size ⟨#[]⟩ p (h p List.mem_cons_self)
    have h2 := ih e (fun q hq => h q (List.mem_cons_of_mem _ hq))
    have h3 : (⟨#[]⟩ : ByteArray).size = 0 := rfl
    simp only [List.length_cons]
    omega
theorem methodError40 (v : Value) (w : World) : (Go.method 253 40 v "Error").run Tryd.prog w = .ok (22, v) w := by kernel_rfl
set_option maxHeartbeats 4000000 in
set_option maxRecDepth 20000 in
theorem error_one (b : Nat) (op what : ByteArray) (v : Value) (rest : ByteArray) (w : World) (hh : w.heap[b]? = some (.cells #[.string op, .string what, v] 46)) (hv : ∃ t x, v = .iface t x) (s1 : op.size ≤ 1048576) (s2 : what.size ≤ 1048576) (s3 : rest.size ≤ 18014398509481984)
    (hI : (∃ e, v = .iface 22 (.int .i64 e) ∧ Calls Tryd.prog 41 #[.int .i64 e] w fun ev w' => ev = .returned (.string rest) ∧ Below w.heap.size w w') ∨ (∃ q, v = .iface 40 (.pointer (some q)) ∧ Calls Tryd.prog 22 #[.pointer (some q)] w fun ev w' => ev = .returned (.string rest) ∧ Below w.heap.size w w')) :
    Calls Tryd.prog 22 #[.pointer (some ⟨b, 0, none⟩)] w fun ev w' => ev = .returned (.string (part ⟨#[]⟩ (op, what) ++ rest)) ∧ Below w.heap.size w w' := by
  have c0 : w.cell? ⟨b, 0, none⟩ = some (.string op) := by simp only [World.cell?, hh]; rfl
  have c1 : w.cell? ⟨b, 1, none⟩ = some (.string what) := by simp only [World.cell?, hh]; rfl
  have c2 : w.cell? ⟨b, 2, none⟩ = some v := by simp only [World.cell?, hh]; rfl
  have m22 := methodError22
  have m40 := methodError40
  have l1 : ¬ 9223372036854775807 < op.size + 1 := by omega
  have l2 : ¬ 9223372036854775807 < what.size + 1 := by omega
  have l3 : ¬ 9223372036854775807 < op.size + 1 + (what.size + 1) := by omega
  have l4 : ¬ 9223372036854775807 < op.size + 1 + 2 := by omega
  have l5 : ¬ 9223372036854775807 < op.size + 1 + (what.size + 1) + 2 := by omega
  have l6 : ¬ 9223372036854775807 < op.size + 1 + 2 + rest.size := by omega
  have l7 : ¬ 9223372036854775807 < op.size + 1 + (what.size + 1) + 2 + rest.size := by omega
  have e1 : (⟨#[]⟩ : ByteArray) ++ op = op := ByteArray.empty_append
  clear hh s1 s2 s3 hv
  by_cases hw : what.toList.isEmpty = true
  · have hp : part ⟨#[]⟩ (op, what) = op ++ ⟨#[32]⟩ ++ ⟨#[58, 32]⟩ := by unfold part; rw [if_pos (by simpa using hw), e1]
    rw [hp]
    clear hp e1 l2 l3 l5 l7
    rcases hI with ⟨e, rfl, hA⟩ | ⟨q, rfl, hA⟩
    all_goals
      go_enter Tryd.func22, Tryd.ntmps22
      go_wp2_with (fail)
      all_goals (try (refine hA.mono ?_; rintro ev w' ⟨rfl, hb⟩))
      all_goals (try go_wp2)
      all_goals (try go_ret)
      all_goals (exact ⟨rfl, hb⟩)
  · have hw2 : what.toList.isEmpty = false := by simpa using hw
    have hp : part ⟨#[]⟩ (op, what) = op ++ ⟨#[32]⟩ ++ (what ++ ⟨#[32]⟩) ++ ⟨#[58, 32]⟩ := by unfold part; rw [if_neg (by simpa using hw), e1, ByteArray.append_assoc (a := op ++ ⟨#[32]⟩)]
    rw [hp]
    clear hp e1 hw l4 l6
    rcases hI with ⟨e, rfl, hA⟩ | ⟨q, rfl, hA⟩
    all_goals
      go_enter Tryd.func22, Tryd.ntmps22
      go_wp2_with (fail)
      all_goals (try (refine hA.mono ?_; rintro ev w' ⟨rfl, hb⟩))
      all_goals (try go_wp2)
      all_goals (try go_ret)
      all_goals (exact ⟨rfl, hb⟩)
theorem error_calls {v : Value} {l : List (ByteArray × ByteArray)} {e : Int} {w : World} (h : Cw w v l e) (h0 : -9223372036854775808 ≤ e) (h1 : e ≤ 9223372036854775807) (hb : big l) (hl : l.length ≤ 4294967296) :
    (∃ b, v = .iface 40 (.pointer (some ⟨b, 0, none⟩)) ∧ Calls Tryd.prog 22 #[.pointer (some ⟨b, 0, none⟩)] w fun ev w' => ev = .returned (.string (txtOf l e)) ∧ Below w.heap.size w w') ∨ (v = .iface 22 (.int .i64 e) ∧ l = []) := by
  induction h with
  | errno e => exact .inr ⟨rfl, rfl⟩
  | wrap b op what v l e hh hc ih =>
    have hbl : big l := fun q hq => hb q (List.mem_cons_of_mem _ hq)
    have hll : l.length ≤ 4294967296 := by simp only [List.length_cons] at hl; omega
    have hs := txtOf_size l e hbl
    refine .inl ⟨b, rfl, ?_⟩
    refine error_one b op what v (txtOf l e) w hh hc.iface (hb (op, what) List.mem_cons_self).1 (hb (op, what) List.mem_cons_self).2 (by omega) ?_
    rcases ih h0 h1 hbl hll with ⟨q, hq, hcq⟩ | ⟨hv, hn⟩
    · exact .inr ⟨_, hq, hcq⟩
    · subst hn
      exact .inl ⟨e, hv, Z.errno_calls e w h0 h1⟩
end Go.Proofs.YtfmmmojlnfndkaaDoor.As

namespace Go.Proofs.YtfmmmojlnfndkaaDoor.As
open Go.RowKit Go.Proofs.YtfmmmojlnfndkaaDoorW.PrintWords Go.Proofs.YtfmmmojlnfndkaaDoorW.PrintLast Go.Extern.Stop Go.Stop Go.Extern
set_option linter.unusedVariables false
set_option linter.unusedSimpArgs false
def Sx (w0 : World) (a0 a1 : ByteArray) (c b d : Nat) (w : World) : Prop := Laid w ∧ w.heap[b]? = some (.cells #[.string a0, .string a1, .iface 88 (.pointer (some ⟨c, 0, none⟩))] 46) ∧ w.heap[d]? = some (.cells #[.string a0, .string a1, .nilIface] 46) ∧ Below w0.heap.size w0 w
section
variable {w0 w w' : World} {a0 a1 : ByteArray} {c b d : Nat}
theorem Sx.on (h : Sx w0 a0 a1 c b d w) (hb : Below w.heap.size w w') : Sx w0 a0 a1 c b d w' := ⟨h.1.on hb, heap_below hb h.2.1, heap_below hb h.2.2.1, below_step h.2.2.2 hb⟩
theorem Sx.laid (h : Sx w0 a0 a1 c b d w) : Laid w := h.1
theorem Sx.cB2 (h : Sx w0 a0 a1 c b d w) : w.cell? ⟨b, 2, none⟩ = some (.iface 88 (.pointer (some ⟨c, 0, none⟩))) := by simp only [World.cell?, h.2.1]; rfl
theorem Sx.cD2 (h : Sx w0 a0 a1 c b d w) : w.cell? ⟨d, 2, none⟩ = some .nilIface := by simp only [World.cell?, h.2.2.1]; rfl
theorem Sx.chW (h : Sx w0 a0 a1 c b d w) : Ch w (.iface 40 (.pointer (some ⟨b, 0, none⟩))) 1 none [a0] := .wrap b a0 _ 0 none [] (by simp only [World.cell?, h.2.1]; rfl) h.cB2 (.str c)
theorem Sx.chD (h : Sx w0 a0 a1 c b d w) : Ch w (.iface 40 (.pointer (some ⟨d, 0, none⟩))) 0 none [a0] := .bare d a0 (by simp only [World.cell?, h.2.2.1]; rfl) h.cD2
end
theorem newErr (s : ByteArray) (w : World) : Calls Tryd.prog 28 #[.string s] w fun ev w' => ev = .returned (.iface 88 (.pointer (some ⟨w.heap.size, 0, none⟩))) ∧ w' = w.alloc (.cells #[.string s] 90) := by
  go_enter Tryd.func28, Tryd.ntmps28
  go_wp2
  go_ret
  exact ⟨rfl, rfl⟩
theorem of5 (v : Value) (n : Nat) (l : List ByteArray) (w : World) (hC : Ch w v n none l) (hg : w.cell? ⟨0, 0, none⟩ = some (.iface 93 (.agg #[.pointer (some ⟨4, 32, none⟩)]))) : Calls Tryd.prog 18 #[v] w fun ev w' => ev = .returned (.int .i64 5) ∧ Below w.heap.size w w' := ofCh v n none l w hC hg
theorem opsNil (w : World) (hg : w.cell? ⟨0, 0, none⟩ = some (.iface 93 (.agg #[.pointer (some ⟨4, 32, none⟩)]))) : Calls Tryd.prog 19 #[.nilIface] w fun ev w' => ∃ A c, ev = .returned (.slice A 0 c) ∧ Below w.heap.size w w' := by
  refine (opsCh .nilIface 0 none [] w (.inl ⟨rfl, rfl⟩) (by simp) hg).mono ?_
  rintro ev w' ⟨v, rfl, hr, hb⟩
  obtain ⟨A, c, rfl⟩ := Kd.R_slice hr
  exact ⟨A, c, rfl, hb⟩
theorem errNil (w : World) : Calls Tryd.prog 22 #[.pointer none] w fun ev w' => ev = .returned (.string ⟨#[]⟩) ∧ w' = w := by
  go_enter Tryd.func22, Tryd.ntmps22
  go_wp2
  go_ret
  exact ⟨rfl, rfl⟩
theorem unwrapNil (w : World) : Calls Tryd.prog 24 #[.pointer none] w fun ev w' => ev = .returned .nilIface ∧ w' = w := by
  go_enter Tryd.func24, Tryd.ntmps24
  go_wp2
  go_ret
  exact ⟨rfl, rfl⟩
theorem unwrapBare (d : Nat) (w : World) (h : w.cell? ⟨d, 2, none⟩ = some .nilIface) : Calls Tryd.prog 24 #[.pointer (some ⟨d, 0, none⟩)] w fun ev w' => ev = .returned .nilIface ∧ w' = w := by
  go_enter Tryd.func24, Tryd.ntmps24
  go_wp2
  go_ret
  exact ⟨rfl, rfl⟩
set_option maxHeartbeats 4000000 in
set_option maxRecDepth 100000 in
theorem strange (a0 a1 : ByteArray) (w : World) (hL : Laid w) : Calls Tryd.prog 8 #[.string a0, .string a1] w fun e w' => e = .returned (.bool true) ∧ Below w.heap.size w w' := by
  have hb1 : Below w.heap.size w (w.alloc (.cells #[.string a1] 90)) := Below.alloc (Below.refl _ _) (Nat.le_refl _) _
  have hA := wrapCh a0 a1 (.iface 88 (.pointer (some ⟨w.heap.size, 0, none⟩))) 0 none [] (w.alloc (.cells #[.string a1] 90)) (.str _) (by decide) (hL.on hb1).et
  have HL := Aside0.mk hL
  have HB1 := Aside0.mk hb1
  clear hL hb1
  go_enter Tryd.func8, Tryd.ntmps8
  go_upto_region 5 with (first | ((with_reducible refine gate_callee (f := 28) rfl ?_); refine goesL_ (some 10) rfl rfl Tryd.func28 (by kernel_rfl) rfl #[.string a1] rfl (by (try simp only [List.map_toArray, List.map_cons, List.map_nil]); first | done | rfl) ?_; (with_reducible refine (newErr a1 w).mono ?_); rintro e' w' ⟨rfl, rfl⟩; refine ⟨_, rfl, ?_⟩) | ((with_reducible refine gate_callee (f := 25) rfl ?_); refine goesL_ (some 14) rfl rfl Tryd.func25 (by kernel_rfl) rfl #[.string a0, .string a1, .iface 88 (.pointer (some ⟨w.heap.size, 0, none⟩))] rfl (by (try simp only [List.map_toArray, List.map_cons, List.map_nil]); first | done | rfl) ?_; (with_reducible refine (hA).mono ?_); rintro e' w2 ⟨b, rfl, hbl, hh, hb⟩; refine ⟨_, rfl, ?_⟩; have HB := Aside0.mk hb; have HH := Aside0.mk hh; clear hb hh hbl))
  have HS : Aside0 (Sx w a0 a1 w.heap.size b w2.heap.size (w2.alloc (.cells #[.string a0, .string a1, .nilIface] 46))) := Aside0.mk (by
    have hb2 := below_step HB1.out HB.out
    have hb3 : Below w2.heap.size w2 (w2.alloc (.cells #[.string a0, .string a1, .nilIface] 46)) := Below.alloc (Below.refl _ _) (Nat.le_refl _) _
    exact ⟨(HL.out.on hb2).on hb3, heap_below hb3 HH.out, heap_new _ _, below_step hb2 hb3⟩)
  clear HH HB HB1 HL
  obtain ⟨c, hc⟩ : ∃ c, c = w.heap.size := ⟨_, rfl⟩
  obtain ⟨d, hd⟩ : ∃ d, d = w2.heap.size := ⟨_, rfl⟩
  obtain ⟨w3, hw3⟩ : ∃ w3, w3 = w2.alloc (.cells #[.string a0, .string a1, .nilIface] 46) := ⟨_, rfl⟩
  rw [← hc, ← hd, ← hw3] at HS
  rw [← hc, ← hd, ← hw3]
  clear hc hd hw3
  go_wp2_with (first | ((with_reducible refine gate_callee (f := 18) rfl ?_); refine goesL_ (some 20) rfl rfl Tryd.func18 (by kernel_rfl) rfl #[.iface 88 (.pointer (some ⟨c, 0, none⟩))] rfl (by (try simp only [List.map_toArray, List.map_cons, List.map_nil]); first | done | rfl) ?_; (with_reducible refine (of5 _ 0 [] _ (.str c) HS.out.laid.et).mono ?_); rintro e' w' ⟨rfl, hb⟩; refine ⟨_, rfl, ?_⟩; have n0_ := Aside0.mk (HS.out.on hb); clear HS; have HS := n0_; clear n0_ hb) | ((with_reducible refine gate_callee (f := 18) rfl ?_); (refine gate_guard (by first | rfl | kernel_rfl) ?_); refine goesL_ (some 28) rfl rfl Tryd.func18 (by kernel_rfl) rfl #[.iface 40 (.pointer (some ⟨b, 0, none⟩))] rfl (by (try simp only [List.map_toArray, List.map_cons, List.map_nil]); first | done | rfl) ?_; (with_reducible refine (of5 _ 1 [a0] _ HS.out.chW HS.out.laid.et).mono ?_); rintro e' w' ⟨rfl, hb⟩; refine ⟨_, rfl, ?_⟩; have n0_ := Aside0.mk (HS.out.on hb); clear HS; have HS := n0_; clear n0_ hb) | ((with_reducible refine gate_callee (f := 26) rfl ?_); (refine gate_guard (by first | rfl | kernel_rfl) ?_); refine goesL_ (some 34) rfl rfl Tryd.func26 (by kernel_rfl) rfl #[.iface 40 (.pointer (some ⟨b, 0, none⟩)), .iface 88 (.pointer (some ⟨c, 0, none⟩))] rfl (by (try simp only [List.map_toArray, List.map_cons, List.map_nil]); first | done | rfl) ?_; (with_reducible refine (isStr b c _ HS.out.cB2).mono ?_); rintro e' w' ⟨rfl, rfl⟩; refine ⟨_, rfl, ?_⟩) | ((with_reducible refine gate_callee (f := 18) rfl ?_); (refine gate_guard (by first | rfl | kernel_rfl) ?_); refine goesL_ (some 37) rfl rfl Tryd.func18 (by kernel_rfl) rfl #[.nilIface] rfl (by (try simp only [List.map_toArray, List.map_cons, List.map_nil]); first | done | rfl) ?_; (with_reducible refine (ofNil _).mono ?_); rintro e' w' ⟨rfl, rfl⟩; refine ⟨_, rfl, ?_⟩) | ((with_reducible refine gate_callee (f := 19) rfl ?_); (refine gate_guard (by first | rfl | kernel_rfl) ?_); refine goesL_ (some 41) rfl rfl Tryd.func19 (by kernel_rfl) rfl #[.nilIface] rfl (by (try simp only [List.map_toArray, List.map_cons, List.map_nil]); first | done | rfl) ?_; (with_reducible refine (opsNil _ HS.out.laid.et).mono ?_); rintro e' w' ⟨A, cap, rfl, hb⟩; refine ⟨_, rfl, ?_⟩; have n0_ := Aside0.mk (HS.out.on hb); clear HS; have HS := n0_; clear n0_ hb) | ((with_reducible refine gate_callee (f := 22) rfl ?_); (refine gate_guard (by first | rfl | kernel_rfl) ?_); refine goesL_ (some 47) rfl rfl Tryd.func22 (by kernel_rfl) rfl #[.pointer none] rfl (by (try simp only [List.map_toArray, List.map_cons, List.map_nil]); first | done | rfl) ?_; (with_reducible refine (errNil _).mono ?_); rintro e' w' ⟨rfl, rfl⟩; refine ⟨_, rfl, ?_⟩) | ((with_reducible refine gate_callee (f := 24) rfl ?_); (refine gate_guard (by first | rfl | kernel_rfl) ?_); refine goesL_ (some 52) rfl rfl Tryd.func24 (by kernel_rfl) rfl #[.pointer none] rfl (by (try simp only [List.map_toArray, List.map_cons, List.map_nil]); first | done | rfl) ?_; (with_reducible refine (unwrapNil _).mono ?_); rintro e' w' ⟨rfl, rfl⟩; refine ⟨_, rfl, ?_⟩) | ((with_reducible refine gate_callee (f := 24) rfl ?_); (refine gate_guard (by first | rfl | kernel_rfl) ?_); refine goesL_ (some 57) rfl rfl Tryd.func24 (by kernel_rfl) rfl #[.pointer (some ⟨d, 0, none⟩)] rfl (by (try simp only [List.map_toArray, List.map_cons, List.map_nil]); first | done | rfl) ?_; (with_reducible refine (unwrapBare d _ HS.out.cD2).mono ?_); rintro e' w' ⟨rfl, rfl⟩; refine ⟨_, rfl, ?_⟩) | ((with_reducible refine gate_callee (f := 18) rfl ?_); (refine gate_guard (by first | rfl | kernel_rfl) ?_); refine goesL_ (some 63) rfl rfl Tryd.func18 (by kernel_rfl) rfl #[.iface 40 (.pointer (some ⟨d, 0, none⟩))] rfl (by (try simp only [List.map_toArray, List.map_cons, List.map_nil]); first | done | rfl) ?_; (with_reducible refine (of5 _ 0 [a0] _ HS.out.chD HS.out.laid.et).mono ?_); rintro e' w' ⟨rfl, hb⟩; refine ⟨_, rfl, ?_⟩; have n0_ := Aside0.mk (HS.out.on hb); clear HS; have HS := n0_; clear n0_ hb) | ((with_reducible refine gate_callee (f := 16) rfl ?_); (refine gate_guard (by first | rfl | kernel_rfl) ?_); refine goesL_ (some 67) rfl rfl Tryd.func16 (by kernel_rfl) rfl #[] rfl (by (try simp only [List.map_toArray, List.map_cons, List.map_nil]); first | done | rfl) ?_; (with_reducible refine (Q.alive.calls true _ HS.out.laid rfl).mono ?_); rintro e' w' ⟨rfl, hb⟩; refine ⟨_, rfl, ?_⟩; have n0_ := Aside0.mk (HS.out.on hb); clear HS; have HS := n0_; clear n0_ hb))
  all_goals (try go_wp2)
  all_goals (try go_ret)
  all_goals (exact ⟨rfl, HS.out.2.2.2⟩)
end Go.Proofs.YtfmmmojlnfndkaaDoor.As
namespace Go.Proofs.YtfmmmojlnfndkaaDoor.Q
open Go.RowKit
def pumicelaw04_FaultStrange.f (_a0 _a1 : ByteArray) : Option Bool := some true
theorem pumicelaw04_FaultStrange.calls (a0 a1 : ByteArray) (r : Bool) (w : World) (hL : As.Laid w) (h : pumicelaw04_FaultStrange.f a0 a1 = some r) : Calls Tryd.prog 8 #[.string a0, .string a1] w fun e w' => e = .returned (.bool r) ∧ Below w.heap.size w w' := by
  obtain rfl : true = r := Option.some.inj h
  exact As.strange a0 a1 w hL
end Go.Proofs.YtfmmmojlnfndkaaDoor.Q

namespace Go.Proofs.YtfmmmojlnfndkaaDoor.As
open Go.RowKit Go.Proofs.YtfmmmojlnfndkaaDoorW.PrintWords Go.Proofs.YtfmmmojlnfndkaaDoorW.PrintLast Go.Extern.Stop Go.Stop Go.Extern
set_option linter.unusedVariables false
set_option linter.unusedSimpArgs false
theorem texts_at {w : World} {A : Option Addr} {xs : List ByteArray} (h : Kd.C Kd.string w A xs.length xs) : ∃ b off, ∀ j x, xs[j]? = some x → A = some ⟨b, off, none⟩ ∧ w.cell? ⟨b, off + j, none⟩ = some (.string x) := by
  obtain ⟨_, hl, hc⟩ := h
  cases xs with
  | nil => exact ⟨0, 0, fun j x hx => by simp at hx⟩
  | cons y ys =>
    obtain ⟨ad, hA, hc⟩ := hc (by simp)
    have hcell : ∀ j x, (y :: ys)[j]? = some x → w.cell? (ad.add j) = some (.string x) := by
      intro j x hx
      obtain ⟨c, hcl, hr, hcc⟩ := hc j x hx
      have hr' : c = [.string x] := hr
      subst hr'
      have := hcc 0 _ rfl
      simpa [Kd.string, Kd.scalar] using this
    have h0 := hcell 0 y rfl
    obtain ⟨b, off, sp⟩ := ad
    have hsp : sp = none := by
      have h0' : w.cell? ⟨b, off, sp⟩ = some (.string y) := h0
      cases sp with
      | none => rfl
      | some s =>
        exfalso
        unfold World.cell? at h0'
        split at h0' <;> simp at h0'
    subst hsp
    refine ⟨b, off, fun j x hx => ⟨hA, ?_⟩⟩
    have h2 := hcell j x hx
    unfold Addr.add at h2
    split at h2
    · rename_i h; subst h; exact h2
    · exact h2
theorem ofE (v : Value) (n : Nat) (e : Int) (l : List ByteArray) (w : World) (hC : Ch w v n (some e) l) (hg : w.cell? ⟨0, 0, none⟩ = some (.iface 93 (.agg #[.pointer (some ⟨4, 32, none⟩)]))) : Calls Tryd.prog 18 #[v] w fun ev w' => ev = .returned (.int .i64 e) ∧ Below w.heap.size w w' := ofCh v n (some e) l w hC hg
theorem isSelf (v : Value) (n : Nat) (e : Int) (l : List ByteArray) (w : World) (hC : Ch w v n (some e) l) : Calls Tryd.prog 26 #[v, .iface 22 (.int .i64 e)] w fun ev w' => ev = .returned (.bool true) ∧ w' = w := by
  have h := isCh v n (some e) l e w hC
  rw [show decide (some e = some e) = true from by simp] at h
  exact h
theorem isThe (v : Value) (n : Nat) (e : Int) (l : List ByteArray) (f : Int) (q : Bool) (w : World) (hC : Ch w v n (some e) l) (hq : (e == f) = q) : Calls Tryd.prog 26 #[v, .iface 22 (.int .i64 f)] w fun ev w' => ev = .returned (.bool q) ∧ w' = w := by
  have h := isCh v n (some e) l f w hC
  rw [show decide (some e = some f) = q from by rw [← hq]; by_cases h : e = f <;> simp [h]] at h
  exact h
theorem opsLen (v : Value) (n : Nat) (e : Int) (l : List ByteArray) (m : Nat) (w : World) (hC : Ch w v n (some e) l) (hl : l.length = m) (hm : m * 16 ≤ 140737488355328) (hg : w.cell? ⟨0, 0, none⟩ = some (.iface 93 (.agg #[.pointer (some ⟨4, 32, none⟩)]))) : Calls Tryd.prog 19 #[v] w fun ev w' => ∃ A c, ev = .returned (.slice A m c) ∧ Below w.heap.size w w' := by
  subst hl
  refine (opsCh v (n + 1) (some e) l w (.inr ⟨n, Nat.lt_succ_self _, hC⟩) hm hg).mono ?_
  rintro ev w' ⟨v, rfl, hr, hb⟩
  obtain ⟨A, c, rfl⟩ := Kd.R_slice hr
  exact ⟨A, c, rfl, hb⟩
set_option maxHeartbeats 8000000 in
set_option maxRecDepth 100000 in
theorem chainE (A0 : Option Addr) (c0 : Nat) (l : List ByteArray) (e f : Int) (fo : Bool) (w : World) (hL : Laid w) (hr : Kd.C Kd.string w A0 l.length l) (hm : l.length * 16 ≤ 140737488355328) (he : e ≠ 0) : Calls Tryd.prog 6 #[.slice A0 l.length c0, .int .i64 e, .int .i64 f, .bool fo] w fun ev w' => ev = .returned (.bool true) ∧ Below w.heap.size w w' := by
  have HR := Aside0.mk (texts_at hr)
  have HM := Aside0.mk hm
  have hl63 : l.length ≤ 8796093022208 := by omega
  have HL := Aside0.mk hl63
  have HE : Aside0 (ofR (some e) ≠ 0) := Aside0.mk he
  have h0 : (e == 0) = false := by simpa using he
  have HG0 := Aside0.mk hL
  clear hr hm he hL hl63
  go_enter Tryd.func6, Tryd.ntmps6
  go_wp2
  go_loopw [9, 10] (fun u i wr => ∃ (k n : Nat) (ops : List ByteArray) (u' : Value), k ≤ l.length ∧ u = u' ∧ i = .int .i64 k ∧ Aside0 (Below w.heap.size w wr) ∧ Aside0 (Laid wr) ∧ Aside0 (ops.length = k) ∧ Aside0 (Ch wr u' n (some e) ops)) (fun _ i _ => l.length - (intOf i).toNat)
  case atStart => exact ⟨0, 0, [], _, by omega, rfl, rfl, ⟨Below.refl _ _⟩, HG0, ⟨rfl⟩, ⟨.errno e⟩⟩
  case round =>
    obtain ⟨k, n, ops, u, hk, h1, rfl, HW, HG, HN, HC⟩ := hrel
    obtain rfl := h1.symm
    clear h1
    obtain ⟨tv, xv, hv⟩ := HC.out.iface
    subst hv
    by_cases hlt : k < l.length
    · have HLT := Aside0.mk hlt
      have hl64 := HL.out
      obtain ⟨x, hx⟩ : ∃ x, l[k]? = some x := ⟨_, List.getElem?_eq_getElem hlt⟩
      obtain ⟨b1, off1, h1⟩ := HR.out
      obtain ⟨rfl, c1⟩ := h1 k x hx
      have y1 := cell_below HW.out c1
      clear h1 hx c1
      have hk1 : (k : Int) < l.length := by omega
      cases fo with
      | false =>
        go_wp2_with (first | ((with_reducible refine gate_callee (f := 25) rfl ?_); refine goesL_ (some 24) rfl rfl Tryd.func25 (by kernel_rfl) rfl #[.string x, .string ⟨#[]⟩, .iface tv xv] rfl (by (try simp only [List.map_toArray, List.map_cons, List.map_nil]); first | done | rfl) ?_; (with_reducible refine (wrapCh x ⟨#[]⟩ _ n (some e) ops _ HC.out HE.out HG.out.et).mono ?_); rintro e' w' ⟨b, rfl, hh⟩; refine ⟨_, rfl, ?_⟩; obtain ⟨hbl, hh, hb⟩ := hh; have HH := Aside0.mk hh; have HC2 := Aside0.mk (wrap_chain HC.out hb hh); have HW2 := Aside0.mk (below_step HW.out hb); have HG2 := Aside0.mk (HG.out.on hb); clear hh hb hbl))
        all_goals (try go_wp2)
        go_roundw
        case rel => exact ⟨k + 1, n + 1, x :: ops, _, by have := HLT.out; omega, rfl, by go_num, HW2, HG2, ⟨by have := HN.out; simp [this]⟩, HC2⟩
        case measure => simp [intOf]; have := HLT.out; omega
      | true =>
        go_wp2_with (first | ((with_reducible refine gate_callee (f := 25) rfl ?_); refine goesL_ (some 24) rfl rfl Tryd.func25 (by kernel_rfl) rfl #[.string x, .string ⟨#[]⟩, .iface tv xv] rfl (by (try simp only [List.map_toArray, List.map_cons, List.map_nil]); first | done | rfl) ?_; (with_reducible refine (wrapCh x ⟨#[]⟩ _ n (some e) ops _ HC.out HE.out HG.out.et).mono ?_); rintro e' w' ⟨b, rfl, hh⟩; refine ⟨_, rfl, ?_⟩; obtain ⟨hbl, hh, hb⟩ := hh; have HH := Aside0.mk hh; have HC2 := Aside0.mk (wrap_chain HC.out hb hh); have HW2 := Aside0.mk (below_step HW.out hb); have HG2 := Aside0.mk (HG.out.on hb); clear hh hb hbl))
        all_goals (try go_wp2)
        go_roundw
        case rel =>
          have hb3 : Below w'.heap.size w' (w'.alloc (.cells #[.iface 40 (.pointer (some ⟨b, 0, none⟩))] 52)) := Below.alloc (Below.refl _ _) (Nat.le_refl _) _
          refine ⟨k + 1, n + 2, x :: ops, _, by have := HLT.out; omega, rfl, by go_num, ⟨below_step HW2.out hb3⟩, ⟨HG2.out.on hb3⟩, ⟨by have := HN.out; simp [this]⟩, ⟨.other w'.heap.size _ (n + 1) (some e) (x :: ops) ?_ (HC2.out.on hb3)⟩⟩
          have h := heap_new w' (.cells #[.iface 40 (.pointer (some ⟨b, 0, none⟩))] 52)
          simp only [World.cell?, h]
          rfl
        case measure => simp [intOf]; have := HLT.out; omega
    · obtain rfl : k = l.length := by omega
      have HLn := HN
      obtain ⟨q, hq⟩ : ∃ q, (e == f) = q := ⟨_, rfl⟩
      have HQ := Aside0.mk hq
      go_wp2_with (first | ((with_reducible refine gate_callee (f := 26) rfl ?_); refine goesL_ (some 54) rfl rfl Tryd.func26 (by kernel_rfl) rfl #[.iface tv xv, .iface 22 (.int .i64 e)] rfl (by (try simp only [List.map_toArray, List.map_cons, List.map_nil]); first | done | rfl) ?_; (with_reducible refine (isSelf _ n e ops _ HC.out).mono ?_); rintro e' w' ⟨rfl, rfl⟩; refine ⟨_, rfl, ?_⟩) | ((with_reducible refine gate_callee (f := 18) rfl ?_); (refine gate_guard (by first | rfl | kernel_rfl) ?_); refine goesL_ (some 57) rfl rfl Tryd.func18 (by kernel_rfl) rfl #[.iface tv xv] rfl (by (try simp only [List.map_toArray, List.map_cons, List.map_nil]); first | done | rfl) ?_; (with_reducible refine (ofE _ n e ops _ HC.out HG.out.et).mono ?_); rintro e' w' ⟨rfl, hb⟩; refine ⟨_, rfl, ?_⟩; have n0_ := Aside0.mk (below_step HW.out hb); have n1_ := Aside0.mk (HC.out.on hb); have n2_ := Aside0.mk (HG.out.on hb); clear HW HC HG; have HW := n0_; have HC := n1_; have HG := n2_; clear n0_ n1_ n2_ hb) | ((with_reducible refine gate_callee (f := 26) rfl ?_); (refine gate_guard (by first | rfl | kernel_rfl) ?_); refine goesL_ (some 65) rfl rfl Tryd.func26 (by kernel_rfl) rfl #[.iface tv xv, .iface 22 (.int .i64 f)] rfl (by (try simp only [List.map_toArray, List.map_cons, List.map_nil]); first | done | rfl) ?_; (with_reducible refine (isThe _ n e ops f q _ HC.out HQ.out).mono ?_); rintro e' w' ⟨rfl, rfl⟩; refine ⟨_, rfl, ?_⟩) | ((with_reducible refine gate_callee (f := 19) rfl ?_); (refine gate_guard (by first | rfl | kernel_rfl) ?_); refine goesL_ (some 73) rfl rfl Tryd.func19 (by kernel_rfl) rfl #[.iface tv xv] rfl (by (try simp only [List.map_toArray, List.map_cons, List.map_nil]); first | done | rfl) ?_; (with_reducible refine (opsLen _ n e ops l.length _ HC.out HLn.out HM.out HG.out.et).mono ?_); rintro e' w' ⟨A2, cap2, rfl, hb⟩; refine ⟨_, rfl, ?_⟩; have n0_ := Aside0.mk (below_step HW.out hb); have n1_ := Aside0.mk (HC.out.on hb); have n2_ := Aside0.mk (HG.out.on hb); clear HW HC HG; have HW := n0_; have HC := n1_; have HG := n2_; clear n0_ n1_ n2_ hb) | ((with_reducible refine gate_callee (f := 16) rfl ?_); (refine gate_guard (by first | rfl | kernel_rfl) ?_); refine goesL_ (some 80) rfl rfl Tryd.func16 (by kernel_rfl) rfl #[] rfl (by (try simp only [List.map_toArray, List.map_cons, List.map_nil]); first | done | rfl) ?_; (with_reducible refine (Q.alive.calls true _ HG.out rfl).mono ?_); rintro e' w' ⟨rfl, hb⟩; refine ⟨_, rfl, ?_⟩; have n0_ := Aside0.mk (below_step HW.out hb); have n1_ := Aside0.mk (HC.out.on hb); have n2_ := Aside0.mk (HG.out.on hb); clear HW HC HG; have HW := n0_; have HC := n1_; have HG := n2_; clear n0_ n1_ n2_ hb))
      all_goals (try go_wp2)
      all_goals (try go_ret)
      all_goals (exact ⟨rfl, HW.out⟩)
set_option maxHeartbeats 8000000 in
set_option maxRecDepth 100000 in
theorem chain0 (A0 : Option Addr) (c0 : Nat) (l : List ByteArray) (f : Int) (fo : Bool) (w : World) (hL : Laid w) (hr : Kd.C Kd.string w A0 l.length l) (hm : l.length * 16 ≤ 140737488355328) : Calls Tryd.prog 6 #[.slice A0 l.length c0, .int .i64 0, .int .i64 f, .bool fo] w fun ev w' => ev = .returned (.bool true) ∧ Below w.heap.size w w' := by
  have HR := Aside0.mk (texts_at hr)
  have hl63 : l.length ≤ 8796093022208 := by omega
  have HL := Aside0.mk hl63
  have HG0 := Aside0.mk hL
  clear hr hm hL hl63
  go_enter Tryd.func6, Tryd.ntmps6
  go_wp2
  go_loopw [9, 10] (fun u i wr => ∃ (k : Nat) (u' : Value), k ≤ l.length ∧ u = u' ∧ i = .int .i64 k ∧ Aside0 (Below w.heap.size w wr) ∧ Aside0 (Laid wr) ∧ Aside0 ((k = 0 ∧ u' = .iface 22 (.int .i64 0)) ∨ (0 < k ∧ u' = .nilIface))) (fun _ i _ => l.length - (intOf i).toNat)
  case atStart => exact ⟨0, _, by omega, rfl, rfl, ⟨Below.refl _ _⟩, HG0, ⟨.inl ⟨rfl, rfl⟩⟩⟩
  case round =>
    obtain ⟨k, u, hk, h1, rfl, HW, HG, HC⟩ := hrel
    obtain rfl := h1.symm
    clear h1
    by_cases hlt : k < l.length
    · have HLT := Aside0.mk hlt
      have hl64 := HL.out
      obtain ⟨x, hx⟩ : ∃ x, l[k]? = some x := ⟨_, List.getElem?_eq_getElem hlt⟩
      obtain ⟨b1, off1, h1⟩ := HR.out
      obtain ⟨rfl, c1⟩ := h1 k x hx
      have y1 := cell_below HW.out c1
      clear h1 hx c1
      have hk1 : (k : Int) < l.length := by omega
      rcases HC.out with ⟨hz, rfl⟩ | ⟨hz, rfl⟩ <;> clear hz HC
      · cases fo <;>
        · go_wp2_with (first | ((with_reducible refine gate_callee (f := 25) rfl ?_); refine goesL_ (some 24) rfl rfl Tryd.func25 (by kernel_rfl) rfl #[.string x, .string ⟨#[]⟩, .iface 22 (.int .i64 0)] rfl (by (try simp only [List.map_toArray, List.map_cons, List.map_nil]); first | done | rfl) ?_; (with_reducible refine (wrapOK x ⟨#[]⟩ _ HG.out.et).mono ?_); rintro e' w' ⟨rfl, hb⟩; refine ⟨_, rfl, ?_⟩; have HW2 := Aside0.mk (below_step HW.out hb); have HG2 := Aside0.mk (HG.out.on hb); clear hb))
          all_goals (try go_wp2)
          go_roundw
          case rel => exact ⟨k + 1, _, by have := HLT.out; omega, rfl, by go_num, HW2, HG2, ⟨.inr ⟨by omega, rfl⟩⟩⟩
          case measure => simp [intOf]; have := HLT.out; omega
      · cases fo <;>
        · go_wp2_with (first | ((with_reducible refine gate_callee (f := 25) rfl ?_); refine goesL_ (some 24) rfl rfl Tryd.func25 (by kernel_rfl) rfl #[.string x, .string ⟨#[]⟩, .nilIface] rfl (by (try simp only [List.map_toArray, List.map_cons, List.map_nil]); first | done | rfl) ?_; (with_reducible refine (wrapNil x ⟨#[]⟩ _).mono ?_); rintro e' w' ⟨rfl, rfl⟩; refine ⟨_, rfl, ?_⟩))
          all_goals (try go_wp2)
          go_roundw
          case rel => exact ⟨k + 1, _, by have := HLT.out; omega, rfl, by go_num, HW, HG, ⟨.inr ⟨by omega, rfl⟩⟩⟩
          case measure => simp [intOf]; have := HLT.out; omega
    · obtain rfl : k = l.length := by omega
      rcases HC.out with ⟨hz, rfl⟩ | ⟨hz, rfl⟩
      · have hz1 : ((l.length : Int) == 0) = true := by rw [hz]; rfl
        clear HC hz
        go_wp2_with (first | ((with_reducible refine gate_callee (f := 18) rfl ?_); (refine gate_guard (by first | rfl | kernel_rfl) ?_); refine goesL_ (some 45) rfl rfl Tryd.func18 (by kernel_rfl) rfl #[.iface 22 (.int .i64 0)] rfl (by (try simp only [List.map_toArray, List.map_cons, List.map_nil]); first | done | rfl) ?_; (with_reducible refine (ofE _ 0 0 [] _ (.errno 0) HG.out.et).mono ?_); rintro e' w' ⟨rfl, hb⟩; refine ⟨_, rfl, ?_⟩; have n0_ := Aside0.mk (below_step HW.out hb); have n2_ := Aside0.mk (HG.out.on hb); clear HW HG; have HW := n0_; have HG := n2_; clear n0_ n2_ hb) | ((with_reducible refine gate_callee (f := 16) rfl ?_); (refine gate_guard (by first | rfl | kernel_rfl) ?_); refine goesL_ (some 49) rfl rfl Tryd.func16 (by kernel_rfl) rfl #[] rfl (by (try simp only [List.map_toArray, List.map_cons, List.map_nil]); first | done | rfl) ?_; (with_reducible refine (Q.alive.calls true _ HG.out rfl).mono ?_); rintro e' w' ⟨rfl, hb⟩; refine ⟨_, rfl, ?_⟩; have n0_ := Aside0.mk (below_step HW.out hb); have n2_ := Aside0.mk (HG.out.on hb); clear HW HG; have HW := n0_; have HG := n2_; clear n0_ n2_ hb))
        all_goals (try go_wp2)
        all_goals (try go_ret)
        all_goals (exact ⟨rfl, HW.out⟩)
      · have hz1 : ((l.length : Int) == 0) = false := beq_eq_false_iff_ne.mpr (by omega)
        clear HC hz
        go_wp2_with (first | ((with_reducible refine gate_callee (f := 18) rfl ?_); (refine gate_guard (by first | rfl | kernel_rfl) ?_); refine goesL_ (some 45) rfl rfl Tryd.func18 (by kernel_rfl) rfl #[.nilIface] rfl (by (try simp only [List.map_toArray, List.map_cons, List.map_nil]); first | done | rfl) ?_; (with_reducible refine (ofNil _).mono ?_); rintro e' w' ⟨rfl, rfl⟩; refine ⟨_, rfl, ?_⟩) | ((with_reducible refine gate_callee (f := 16) rfl ?_); (refine gate_guard (by first | rfl | kernel_rfl) ?_); refine goesL_ (some 49) rfl rfl Tryd.func16 (by kernel_rfl) rfl #[] rfl (by (try simp only [List.map_toArray, List.map_cons, List.map_nil]); first | done | rfl) ?_; (with_reducible refine (Q.alive.calls true _ HG.out rfl).mono ?_); rintro e' w' ⟨rfl, hb⟩; refine ⟨_, rfl, ?_⟩; have n0_ := Aside0.mk (below_step HW.out hb); have n2_ := Aside0.mk (HG.out.on hb); clear HW HG; have HW := n0_; have HG := n2_; clear n0_ n2_ hb))
        all_goals (try go_wp2)
        all_goals (try go_ret)
        all_goals (exact ⟨rfl, HW.out⟩)
end Go.Proofs.YtfmmmojlnfndkaaDoor.As
namespace Go.Proofs.YtfmmmojlnfndkaaDoor.Q
open Go.RowKit Go.Proofs.YtfmmmojlnfndkaaDoorW.PrintWords
def pumicelaw04_FaultChain.f (l : List ByteArray) (_a1 _a2 : Int) (_a3 : Bool) : Option Bool := if l.length * 16 ≤ 140737488355328 then some true else none
theorem pumicelaw04_FaultChain.calls (A0 : Option Addr) (c0 : Nat) (l : List ByteArray) (a1 a2 : Int) (a3 : Bool) (r : Bool) (w : World) (hL : As.Laid w) (hr : Kd.C Kd.string w A0 l.length l) (_hc : l.length ≤ c0) (h : pumicelaw04_FaultChain.f l a1 a2 a3 = some r) : Calls Tryd.prog 6 #[.slice A0 l.length c0, .int .i64 a1, .int .i64 a2, .bool a3] w fun e w' => e = .returned (.bool r) ∧ Below w.heap.size w w' := by
  unfold pumicelaw04_FaultChain.f at h
  split at h
  · rename_i hm
    obtain rfl : true = r := Option.some.inj h
    by_cases he : a1 = 0
    · subst he; exact As.chain0 A0 c0 l a2 a3 w hL hr hm
    · exact As.chainE A0 c0 l a1 a2 a3 w hL hr hm he
  · cases h
end Go.Proofs.YtfmmmojlnfndkaaDoor.Q

namespace Go.Proofs.YtfmmmojlnfndkaaDoor.Z
open Go.RowKit Go.Proofs.YtfmmmojlnfndkaaDoorW.PrintWords Go.Proofs.YtfmmmojlnfndkaaDoorW.PrintLast Go.Proofs.YtfmmmojlnfndkaaDoorW.PrintMore
attribute [local go_sem] max2_int min2_int max_two min_two max_three min_three max_four min_four   -- for this text's walks alone
set_option linter.unusedVariables false
set_option linter.unusedSimpArgs false

/-! ### pumiceref04_Wrap: function 36 -/
def pumiceref04_Wrap.f (a0 : ByteArray) (a1 : ByteArray) (l2_0 : List ByteArray) (l2_1 : List ByteArray) (a2_2 : Int) : Option (List ByteArray × List ByteArray × Int) := if a2_2 = 0 then (some (([] : List ByteArray), ([] : List ByteArray), 0)) else (if ([] : List ByteArray).length < 8796093022208 then ((some (([] : List ByteArray) ++ [a0] : List ByteArray)).bind fun y104 => (if y104.length + l2_0.length < 8796093022208 then ((some (([] : List ByteArray) ++ [a1] : List ByteArray)).bind fun y110 => (if y110.length + l2_1.length < 8796093022208 then (some ((y104 ++ l2_0), (y110 ++ l2_1), a2_2)) else (none))) else (none))) else (none))
set_option maxHeartbeats 8000000 in
set_option maxRecDepth 100000 in
theorem pumiceref04_Wrap.calls (a0 : ByteArray) (a1 : ByteArray) (A2_0 : Option Addr) (c2_0 : Nat) (l2_0 : List ByteArray) (A2_1 : Option Addr) (c2_1 : Nat) (l2_1 : List ByteArray) (a2_2 : Int) (r1 : List ByteArray) (r2 : List ByteArray) (r3 : Int) (w : World) (hr2_0 : Kd.C Kd.string w A2_0 l2_0.length l2_0) (hc2_0 : l2_0.length ≤ c2_0) (hr2_1 : Kd.C Kd.string w A2_1 l2_1.length l2_1) (hc2_1 : l2_1.length ≤ c2_1) (h : pumiceref04_Wrap.f a0 a1 l2_0 l2_1 a2_2 = some (r1, r2, r3)) :
    Calls Tryd.prog 36 #[.string a0, .string a1, .agg #[.slice A2_0 l2_0.length c2_0, .slice A2_1 l2_1.length c2_1, .int .i64 a2_2]] w fun e w' => ∃ v0_ v1_ : Value, e = .returned (.agg #[v0_, v1_, .int .i64 r3]) ∧ Kd.R Kd.string 9 w' w.heap.size (fun k_ => some k_ ≠ (v1_ : Value).ownBlock) v0_ r1 ∧ Kd.R Kd.string 9 w' w.heap.size (fun k_ => some k_ ≠ (v0_ : Value).ownBlock) v1_ r2 ∧ Below w.heap.size w w' := by
  have hu34 := Tryd.underlying34
  have HR2_0 := Aside0.mk hr2_0
  have HC2_0 := Aside0.mk hc2_0
  clear hr2_0 hc2_0
  have HR2_1 := Aside0.mk hr2_1
  have HC2_1 := Aside0.mk hc2_1
  clear hr2_1 hc2_1
  have HB := Aside0.mk (Below.refl w.heap.size w)
  have H : (if a2_2 = 0 then (some (([] : List ByteArray), ([] : List ByteArray), 0)) else (if ([] : List ByteArray).length < 8796093022208 then ((some (([] : List ByteArray) ++ [a0] : List ByteArray)).bind fun y104 => (if y104.length + l2_0.length < 8796093022208 then ((some (([] : List ByteArray) ++ [a1] : List ByteArray)).bind fun y110 => (if y110.length + l2_1.length < 8796093022208 then (some ((y104 ++ l2_0), (y110 ++ l2_1), a2_2)) else (none))) else (none))) else (none))) = some (r1, r2, r3) := h
  clear h
  by_cases c4 : a2_2 = 0
  · rw [if_pos c4] at H
    have c4b0 : (a2_2 == 0) = true := beq_iff_eq.mpr c4
    have c4b1 : (a2_2 != 0) = false := bne_eq_false_iff_eq.mpr c4
    clear c4
    simp only [Option.some.injEq, Prod.mk.injEq] at H
    obtain ⟨rfl, rfl, rfl⟩ := H
    go_enter Tryd.func36, Tryd.ntmps36
    go_wp2_with (first | ((with_reducible refine gate_dst (N := 5) rfl ?_); refine box_event ?hg (N := 5) ?hd (cs := #[.slice A2_0 l2_0.length c2_0, .slice A2_1 l2_1.length c2_1, .int .i64 a2_2]) (t := 34) ?hr ?_; (case hd => rfl); (case hg => rfl); (case hr => first | (go_simp; done) | (go_simp; rfl)); intro gb101 hg w5 hbox hb; have n0_ := Aside0.mk (below_step (by repeat (first | (with_reducible first | exact HB.out | apply below_alloc | apply pw_below_drewN | apply below_drew1) | exact HB.out)) hb); have n1_ := Aside0.mk (hbox); have n2_ := Aside0.mk ((by rw [hg]; exact (below_size (by repeat (first | (with_reducible first | exact HB.out | apply below_alloc | apply pw_below_drewN | apply below_drew1) | exact HB.out))) : w.heap.size ≤ gb101)); have n3_ := Aside0.mk ((by rw [hg]; exact (below_size (by repeat (first | (with_reducible first | exact HB.out | apply below_alloc | apply pw_below_drewN | apply below_drew1) | exact HB.out))) : w.heap.size ≤ gb101)); clear HB; have HB := n0_; have BK101 := n1_; have GW101 := n2_; have GE101 := n3_; clear n0_ n1_ n2_ n3_; clear hb hbox hg) | ((with_reducible refine gate_dst (N := 6) rfl ?_); refine box_event ?hg (N := 6) ?hd (cs := #[.slice none 0 0, .slice none 0 0, .int .i64 0]) (t := 34) ?hr ?_; (case hd => rfl); (case hg => rfl); (case hr => first | (go_simp; done) | (go_simp; rfl)); intro gb102 hg w6 hbox hb; have n0_ := Aside0.mk (blk_below (g := gb101) (o := .cells #[.slice A2_0 l2_0.length c2_0, .slice A2_1 l2_1.length c2_1, .int .i64 a2_2] 34 (0, 0)) (by (with_reducible repeat (first | refine blk_drewN ?_ _ | refine blk_drew ?_ | refine blk_alloc ?_ _)); exact BK101.out) hb); have n1_ := Aside0.mk (below_step (by repeat (first | (with_reducible first | exact HB.out | apply below_alloc | apply pw_below_drewN | apply below_drew1 | refine below_set ?_ GE101.out) | exact HB.out)) hb); have n2_ := Aside0.mk (hbox); have n3_ := Aside0.mk ((by rw [hg]; exact (below_size (by repeat (first | (with_reducible first | exact HB.out | apply below_alloc | apply pw_below_drewN | apply below_drew1 | refine below_set ?_ GE101.out) | exact HB.out))) : w.heap.size ≤ gb102)); have n4_ := Aside0.mk ((by rw [hg]; exact (below_size (by repeat (first | (with_reducible first | exact HB.out | apply below_alloc | apply pw_below_drewN | apply below_drew1 | refine below_set ?_ GE101.out) | exact HB.out))) : w.heap.size ≤ gb102)); have n5_ := Aside0.mk ((by rw [hg]; exact Nat.ne_of_lt (blk_lt (g := gb101) (o := .cells #[.slice A2_0 l2_0.length c2_0, .slice A2_1 l2_1.length c2_1, .int .i64 a2_2] 34 (0, 0)) (by (with_reducible repeat (first | refine blk_drewN ?_ _ | refine blk_drew ?_ | refine blk_alloc ?_ _)); exact BK101.out)) : gb101 ≠ gb102)); have n6_ := Aside0.mk ((by rw [hg]; exact Nat.ne_of_gt (blk_lt (g := gb101) (o := .cells #[.slice A2_0 l2_0.length c2_0, .slice A2_1 l2_1.length c2_1, .int .i64 a2_2] 34 (0, 0)) (by (with_reducible repeat (first | refine blk_drewN ?_ _ | refine blk_drew ?_ | refine blk_alloc ?_ _)); exact BK101.out)) : gb102 ≠ gb101)); clear BK101; clear HB; have BK101 := n0_; have HB := n1_; have BK102 := n2_; have GW102 := n3_; have GE102 := n4_; have NB101_102 := n5_; have NB102_101 := n6_; clear n0_ n1_ n2_ n3_ n4_ n5_ n6_; clear hb hbox hg; have hnb7 := NB101_102.out; have hnc7 := NB102_101.out; have hcz8_0 : w6.cell? ⟨gb101, 0, none⟩ = some (.slice A2_0 l2_0.length c2_0) := (blk_cell BK101.out 0).trans rfl; have hcz8_1 : w6.cell? ⟨gb101, 1, none⟩ = some (.slice A2_1 l2_1.length c2_1) := (blk_cell BK101.out 1).trans rfl; have hcz8_2 : w6.cell? ⟨gb101, 2, none⟩ = some (.int .i64 a2_2) := (blk_cell BK101.out 2).trans rfl; have hfz8_0 := blk_frozen BK101.out 0; have hfz8_1 := blk_frozen BK101.out 1; have hfz8_2 := blk_frozen BK101.out 2; have hcz9_0 : w6.cell? ⟨gb102, 0, none⟩ = some (.slice none 0 0) := (blk_cell BK102.out 0).trans rfl; have hcz9_1 : w6.cell? ⟨gb102, 1, none⟩ = some (.slice none 0 0) := (blk_cell BK102.out 1).trans rfl; have hcz9_2 : w6.cell? ⟨gb102, 2, none⟩ = some (.int .i64 0) := (blk_cell BK102.out 2).trans rfl; have hfz9_0 := blk_frozen BK102.out 0; have hfz9_1 := blk_frozen BK102.out 1; have hfz9_2 := blk_frozen BK102.out 2))
    refine bodyPost_ret (results_cell_row rfl _ _ gb102 34 #[.slice none 0 0, .slice none 0 0, .int .i64 0] (0, 0) _ rfl (by (with_reducible repeat (first | refine blk_drewN ?_ _ | refine blk_drew ?_ | refine blk_alloc ?_ _)); refine blk_put (cs := #[.slice none 0 0, .slice none 0 0, .int .i64 0]) ?_ 2 _ rfl; (with_reducible repeat (first | refine blk_drewN ?_ _ | refine blk_drew ?_ | refine blk_alloc ?_ _)); refine blk_put (cs := #[.slice none 0 0, .slice none 0 0, .int .i64 0]) ?_ 1 _ rfl; (with_reducible repeat (first | refine blk_drewN ?_ _ | refine blk_drew ?_ | refine blk_alloc ?_ _)); refine blk_put (cs := #[.slice none 0 0, .slice none 0 0, .int .i64 0]) ?_ 0 _ rfl; (with_reducible repeat (first | refine blk_drewN ?_ _ | refine blk_drew ?_ | refine blk_alloc ?_ _)); exact BK102.out) Tryd.underlying34 rfl (by kernel_rfl)) rfl ?_
    exact ⟨_, _, by first | rfl | (simp [errW_none, errW_some] <;> rfl) | (simp [*, errW_none, errW_some] <;> rfl), by first | exact Kd.R_nil _ _ _ _ _ | exact Kd.N_nil _ _ _ _ _ | exact Kd.V_nil _ _ _ _ _ | exact Kd.Q_nil _ _ _ _ _ | exact Kd.S_nil _ _ _ _ _, by first | exact Kd.R_nil _ _ _ _ _ | exact Kd.N_nil _ _ _ _ _ | exact Kd.V_nil _ _ _ _ _ | exact Kd.Q_nil _ _ _ _ _ | exact Kd.S_nil _ _ _ _ _, by repeat (first | (with_reducible first | exact HB.out | apply below_alloc | apply pw_below_drewN | apply below_drew1 | refine below_set ?_ GE101.out | refine below_set ?_ GE102.out) | exact HB.out)⟩
  · rw [if_neg c4] at H
    have c4b0 : (a2_2 == 0) = false := beq_eq_false_iff_ne.mpr c4
    have c4b1 : (a2_2 != 0) = true := bne_iff_ne.mpr c4
    by_cases c10 : ([] : List ByteArray).length < 8796093022208
    · rw [if_pos c10] at H
      have LMc10 := Aside0.mk c10
      clear c10
      obtain ⟨y104, hy104⟩ : ∃ y_ : List ByteArray, y_ = (([] : List ByteArray) ++ [a0]) := ⟨_, rfl⟩
      replace H : (if y104.length + l2_0.length < 8796093022208 then ((some (([] : List ByteArray) ++ [a1] : List ByteArray)).bind fun y110 => (if y110.length + l2_1.length < 8796093022208 then (some ((y104 ++ l2_0), (y110 ++ l2_1), a2_2)) else (none))) else (none)) = some (r1, r2, r3) := by first | (rw [hy104]; with_reducible exact H) | (have H2_ := (Option.bind_some _ _).symm.trans H; rw [hy104]; with_reducible exact H2_) | (have H2_ := (Option.bind_some _ _).symm.trans H; with_reducible exact H2_) | with_reducible exact H | (rw [hy104]; exact H) | exact H
      have Ny104 := Aside0.mk hy104
      clear hy104
      by_cases c11 : y104.length + l2_0.length < 8796093022208
      · rw [if_pos c11] at H
        have LMc11 := Aside0.mk c11
        clear c11
        obtain ⟨y107, hy107⟩ : ∃ y_ : List ByteArray, y_ = (y104 ++ l2_0) := ⟨_, rfl⟩
        replace H : ((some (([] : List ByteArray) ++ [a1] : List ByteArray)).bind fun y110 => (if y110.length + l2_1.length < 8796093022208 then (some (y107, (y110 ++ l2_1), a2_2)) else (none))) = some (r1, r2, r3) := by first | (rw [hy107]; with_reducible exact H) | (have H2_ := (Option.bind_some _ _).symm.trans H; rw [hy107]; with_reducible exact H2_) | (have H2_ := (Option.bind_some _ _).symm.trans H; with_reducible exact H2_) | with_reducible exact H | (rw [hy107]; exact H) | exact H
        have Ny107 := Aside0.mk hy107
        clear hy107
        obtain ⟨y110, hy110⟩ : ∃ y_ : List ByteArray, y_ = (([] : List ByteArray) ++ [a1]) := ⟨_, rfl⟩
        replace H : (if y110.length + l2_1.length < 8796093022208 then (some (y107, (y110 ++ l2_1), a2_2)) else (none)) = some (r1, r2, r3) := by first | (rw [hy110]; with_reducible exact H) | (have H2_ := (Option.bind_some _ _).symm.trans H; rw [hy110]; with_reducible exact H2_) | (have H2_ := (Option.bind_some _ _).symm.trans H; with_reducible exact H2_) | with_reducible exact H | (rw [hy110]; exact H) | exact H
        have Ny110 := Aside0.mk hy110
        clear hy110
        by_cases c12 : y110.length + l2_1.length < 8796093022208
        · rw [if_pos c12] at H
          have LMc12 := Aside0.mk c12
          clear c12
          obtain ⟨y113, hy113⟩ : ∃ y_ : List ByteArray, y_ = (y110 ++ l2_1) := ⟨_, rfl⟩
          replace H : (some (y107, y113, a2_2)) = some (r1, r2, r3) := by first | (rw [hy113]; with_reducible exact H) | (have H2_ := (Option.bind_some _ _).symm.trans H; rw [hy113]; with_reducible exact H2_) | (have H2_ := (Option.bind_some _ _).symm.trans H; with_reducible exact H2_) | with_reducible exact H | (rw [hy113]; exact H) | exact H
          have Ny113 := Aside0.mk hy113
          clear hy113
          simp only [Option.some.injEq, Prod.mk.injEq] at H
          obtain ⟨rfl, rfl, rfl⟩ := H
          go_enter Tryd.func36, Tryd.ntmps36
          go_wp2_with (first | ((with_reducible refine gate_dst (N := 5) rfl ?_); refine box_event ?hg (N := 5) ?hd (cs := #[.slice A2_0 l2_0.length c2_0, .slice A2_1 l2_1.length c2_1, .int .i64 a2_2]) (t := 34) ?hr ?_; (case hd => rfl); (case hg => rfl); (case hr => first | (go_simp; done) | (go_simp; rfl)); intro gb101 hg w13 hbox hb; have n0_ := Aside0.mk (below_step (by repeat (first | (with_reducible first | exact HB.out | apply below_alloc | apply pw_below_drewN | apply below_drew1) | exact HB.out)) hb); have n1_ := Aside0.mk (hbox); have n2_ := Aside0.mk ((by rw [hg]; exact (below_size (by repeat (first | (with_reducible first | exact HB.out | apply below_alloc | apply pw_below_drewN | apply below_drew1) | exact HB.out))) : w.heap.size ≤ gb101)); have n3_ := Aside0.mk ((by rw [hg]; exact (below_size (by repeat (first | (with_reducible first | exact HB.out | apply below_alloc | apply pw_below_drewN | apply below_drew1) | exact HB.out))) : w.heap.size ≤ gb101)); clear HB; have HB := n0_; have BK101 := n1_; have GW101 := n2_; have GE101 := n3_; clear n0_ n1_ n2_ n3_; clear hb hbox hg) | ((with_reducible refine gate_dst (N := 6) rfl ?_); refine box_event ?hg (N := 6) ?hd (cs := #[.slice none 0 0, .slice none 0 0, .int .i64 0]) (t := 34) ?hr ?_; (case hd => rfl); (case hg => rfl); (case hr => first | (go_simp; done) | (go_simp; rfl)); intro gb102 hg w14 hbox hb; have n0_ := Aside0.mk (blk_below (g := gb101) (o := .cells #[.slice A2_0 l2_0.length c2_0, .slice A2_1 l2_1.length c2_1, .int .i64 a2_2] 34 (0, 0)) (by (with_reducible repeat (first | refine blk_drewN ?_ _ | refine blk_drew ?_ | refine blk_alloc ?_ _)); exact BK101.out) hb); have n1_ := Aside0.mk (below_step (by repeat (first | (with_reducible first | exact HB.out | apply below_alloc | apply pw_below_drewN | apply below_drew1 | refine below_set ?_ GE101.out) | exact HB.out)) hb); have n2_ := Aside0.mk (hbox); have n3_ := Aside0.mk ((by rw [hg]; exact (below_size (by repeat (first | (with_reducible first | exact HB.out | apply below_alloc | apply pw_below_drewN | apply below_drew1 | refine below_set ?_ GE101.out) | exact HB.out))) : w.heap.size ≤ gb102)); have n4_ := Aside0.mk ((by rw [hg]; exact (below_size (by repeat (first | (with_reducible first | exact HB.out | apply below_alloc | apply pw_below_drewN | apply below_drew1 | refine below_set ?_ GE101.out) | exact HB.out))) : w.heap.size ≤ gb102)); have n5_ := Aside0.mk ((by rw [hg]; exact Nat.ne_of_lt (blk_lt (g := gb101) (o := .cells #[.slice A2_0 l2_0.length c2_0, .slice A2_1 l2_1.length c2_1, .int .i64 a2_2] 34 (0, 0)) (by (with_reducible repeat (first | refine blk_drewN ?_ _ | refine blk_drew ?_ | refine blk_alloc ?_ _)); exact BK101.out)) : gb101 ≠ gb102)); have n6_ := Aside0.mk ((by rw [hg]; exact Nat.ne_of_gt (blk_lt (g := gb101) (o := .cells #[.slice A2_0 l2_0.length c2_0, .slice A2_1 l2_1.length c2_1, .int .i64 a2_2] 34 (0, 0)) (by (with_reducible repeat (first | refine blk_drewN ?_ _ | refine blk_drew ?_ | refine blk_alloc ?_ _)); exact BK101.out)) : gb102 ≠ gb101)); clear BK101; clear HB; have BK101 := n0_; have HB := n1_; have BK102 := n2_; have GW102 := n3_; have GE102 := n4_; have NB101_102 := n5_; have NB102_101 := n6_; clear n0_ n1_ n2_ n3_ n4_ n5_ n6_; clear hb hbox hg; have hnb15 := NB101_102.out; have hnc15 := NB102_101.out; have hcz16_0 : w14.cell? ⟨gb101, 0, none⟩ = some (.slice A2_0 l2_0.length c2_0) := (blk_cell BK101.out 0).trans rfl; have hcz16_1 : w14.cell? ⟨gb101, 1, none⟩ = some (.slice A2_1 l2_1.length c2_1) := (blk_cell BK101.out 1).trans rfl; have hcz16_2 : w14.cell? ⟨gb101, 2, none⟩ = some (.int .i64 a2_2) := (blk_cell BK101.out 2).trans rfl; have hfz16_0 := blk_frozen BK101.out 0; have hfz16_1 := blk_frozen BK101.out 1; have hfz16_2 := blk_frozen BK101.out 2) | ((with_reducible refine gate_dst (N := 7) rfl ?_); refine box_event ?hg (N := 7) ?hd (cs := #[.slice none 0 0, .slice none 0 0, .int .i64 0]) (t := 34) ?hr ?_; (case hd => rfl); (case hg => rfl); (case hr => first | (go_simp; done) | (go_simp; rfl)); intro gb103 hg w17 hbox hb; have n0_ := Aside0.mk (blk_below (g := gb101) (o := .cells #[.slice A2_0 l2_0.length c2_0, .slice A2_1 l2_1.length c2_1, .int .i64 a2_2] 34 (0, 0)) (by (with_reducible repeat (first | refine blk_drewN ?_ _ | refine blk_drew ?_ | refine blk_alloc ?_ _)); exact BK101.out) hb); have n1_ := Aside0.mk (blk_below (g := gb102) (o := .cells #[.slice none 0 0, .slice none 0 0, .int .i64 0] 34 (0, 0)) (by (with_reducible repeat (first | refine blk_drewN ?_ _ | refine blk_drew ?_ | refine blk_alloc ?_ _)); exact BK102.out) hb); have n2_ := Aside0.mk (below_step (by repeat (first | (with_reducible first | exact HB.out | apply below_alloc | apply pw_below_drewN | apply below_drew1 | refine below_set ?_ GE101.out | refine below_set ?_ GE102.out) | exact HB.out)) hb); have n3_ := Aside0.mk (hbox); have n4_ := Aside0.mk ((by rw [hg]; exact (below_size (by repeat (first | (with_reducible first | exact HB.out | apply below_alloc | apply pw_below_drewN | apply below_drew1 | refine below_set ?_ GE101.out | refine below_set ?_ GE102.out) | exact HB.out))) : w.heap.size ≤ gb103)); have n5_ := Aside0.mk ((by rw [hg]; exact (below_size (by repeat (first | (with_reducible first | exact HB.out | apply below_alloc | apply pw_below_drewN | apply below_drew1 | refine below_set ?_ GE101.out | refine below_set ?_ GE102.out) | exact HB.out))) : w.heap.size ≤ gb103)); have n6_ := Aside0.mk ((by rw [hg]; exact Nat.ne_of_lt (blk_lt (g := gb101) (o := .cells #[.slice A2_0 l2_0.length c2_0, .slice A2_1 l2_1.length c2_1, .int .i64 a2_2] 34 (0, 0)) (by (with_reducible repeat (first | refine blk_drewN ?_ _ | refine blk_drew ?_ | refine blk_alloc ?_ _)); exact BK101.out)) : gb101 ≠ gb103)); have n7_ := Aside0.mk ((by rw [hg]; exact Nat.ne_of_gt (blk_lt (g := gb101) (o := .cells #[.slice A2_0 l2_0.length c2_0, .slice A2_1 l2_1.length c2_1, .int .i64 a2_2] 34 (0, 0)) (by (with_reducible repeat (first | refine blk_drewN ?_ _ | refine blk_drew ?_ | refine blk_alloc ?_ _)); exact BK101.out)) : gb103 ≠ gb101)); have n8_ := Aside0.mk ((by rw [hg]; exact Nat.ne_of_lt (blk_lt (g := gb102) (o := .cells #[.slice none 0 0, .slice none 0 0, .int .i64 0] 34 (0, 0)) (by (with_reducible repeat (first | refine blk_drewN ?_ _ | refine blk_drew ?_ | refine blk_alloc ?_ _)); exact BK102.out)) : gb102 ≠ gb103)); have n9_ := Aside0.mk ((by rw [hg]; exact Nat.ne_of_gt (blk_lt (g := gb102) (o := .cells #[.slice none 0 0, .slice none 0 0, .int .i64 0] 34 (0, 0)) (by (with_reducible repeat (first | refine blk_drewN ?_ _ | refine blk_drew ?_ | refine blk_alloc ?_ _)); exact BK102.out)) : gb103 ≠ gb102)); clear BK101; clear BK102; clear HB; have BK101 := n0_; have BK102 := n1_; have HB := n2_; have BK103 := n3_; have GW103 := n4_; have GE103 := n5_; have NB101_103 := n6_; have NB103_101 := n7_; have NB102_103 := n8_; have NB103_102 := n9_; clear n0_ n1_ n2_ n3_ n4_ n5_ n6_ n7_ n8_ n9_; clear hb hbox hg; have hnb18 := NB103_101.out; have hnc18 := NB101_103.out; have hnb19 := NB103_102.out; have hnc19 := NB102_103.out; have hcz20_0 : w17.cell? ⟨gb103, 0, none⟩ = some (.slice none 0 0) := (blk_cell BK103.out 0).trans rfl; have hcz20_1 : w17.cell? ⟨gb103, 1, none⟩ = some (.slice none 0 0) := (blk_cell BK103.out 1).trans rfl; have hcz20_2 : w17.cell? ⟨gb103, 2, none⟩ = some (.int .i64 0) := (blk_cell BK103.out 2).trans rfl; have hfz20_0 := blk_frozen BK103.out 0; have hfz20_1 := blk_frozen BK103.out 1; have hfz20_2 := blk_frozen BK103.out 2) | ((with_reducible refine gate_builtin (b := .append) (xs := #[.tmp 16, .tmp 18]) rfl ?_); at_builtin; refine Kd.R_append Kd.string (w0 := w) w.heap.size rfl (.tmp 16) (.tmp 18) 30 9 (.string ⟨#[]⟩) 16 rfl Tryd.underlying30 info9 rfl (by decide) (by omega) (.slice none 0 0) ([] : List ByteArray) a0 [.string a0] (fun _ => True) (fun _ => False) rfl (by first | (go_simp; done) | (go_simp; rfl)) ?aP (fun _ hk => hk.elim) ?aF ?aO ?aB ?aS ?aL ?_; (case aP => exact rfl); (case aB => exact (by repeat (first | (with_reducible first | exact HB.out | apply below_alloc | apply pw_below_drewN | apply below_drew1 | refine below_set ?_ GE101.out | refine below_set ?_ GE102.out | refine below_set ?_ GE103.out) | exact HB.out))); (case aF => exact (fun _ _ => trivial)); (case aO => exact ((Kd.R_nil _ _ _ _ (fun _ => True)))); (case aS => exact (below_size (by repeat (first | (with_reducible first | exact HB.out | apply below_alloc | apply pw_below_drewN | apply below_drew1 | refine below_set ?_ GE101.out | refine below_set ?_ GE102.out | refine below_set ?_ GE103.out) | exact HB.out)))); (case aL => have := LMc10.out; omega); intro v105 w21 ho hb hg hat; rw [← Ny104.out] at ho; have n0_ := Aside0.mk (blk_grown (g := gb101) (o := .cells #[.slice A2_0 l2_0.length c2_0, .slice A2_1 l2_1.length c2_1, .int .i64 a2_2] 34 (0, 0)) (by (with_reducible repeat (first | refine blk_drewN ?_ _ | refine blk_drew ?_ | refine blk_alloc ?_ _)); refine blk_far ?_ NB101_103.out _; (with_reducible repeat (first | refine blk_drewN ?_ _ | refine blk_drew ?_ | refine blk_alloc ?_ _)); refine blk_far ?_ NB101_103.out _; (with_reducible repeat (first | refine blk_drewN ?_ _ | refine blk_drew ?_ | refine blk_alloc ?_ _)); refine blk_far ?_ NB101_103.out _; (with_reducible repeat (first | refine blk_drewN ?_ _ | refine blk_drew ?_ | refine blk_alloc ?_ _)); exact BK101.out) hg (by simp [Value.ownBlock])); have n1_ := Aside0.mk (blk_grown (g := gb102) (o := .cells #[.slice none 0 0, .slice none 0 0, .int .i64 0] 34 (0, 0)) (by (with_reducible repeat (first | refine blk_drewN ?_ _ | refine blk_drew ?_ | refine blk_alloc ?_ _)); refine blk_far ?_ NB102_103.out _; (with_reducible repeat (first | refine blk_drewN ?_ _ | refine blk_drew ?_ | refine blk_alloc ?_ _)); refine blk_far ?_ NB102_103.out _; (with_reducible repeat (first | refine blk_drewN ?_ _ | refine blk_drew ?_ | refine blk_alloc ?_ _)); refine blk_far ?_ NB102_103.out _; (with_reducible repeat (first | refine blk_drewN ?_ _ | refine blk_drew ?_ | refine blk_alloc ?_ _)); exact BK102.out) hg (by simp [Value.ownBlock])); have n2_ := Aside0.mk (blk_grown (g := gb103) (o := .cells #[.slice none 0 0, .slice none 0 0, .int .i64 a2_2] 34 (0, 0)) (by (with_reducible repeat (first | refine blk_drewN ?_ _ | refine blk_drew ?_ | refine blk_alloc ?_ _)); refine blk_put (cs := #[.slice none 0 0, .slice none 0 0, .int .i64 0]) ?_ 2 _ rfl; (with_reducible repeat (first | refine blk_drewN ?_ _ | refine blk_drew ?_ | refine blk_alloc ?_ _)); refine blk_put (cs := #[.slice none 0 0, .slice none 0 0, .int .i64 0]) ?_ 1 _ rfl; (with_reducible repeat (first | refine blk_drewN ?_ _ | refine blk_drew ?_ | refine blk_alloc ?_ _)); refine blk_put (cs := #[.slice none 0 0, .slice none 0 0, .int .i64 0]) ?_ 0 _ rfl; (with_reducible repeat (first | refine blk_drewN ?_ _ | refine blk_drew ?_ | refine blk_alloc ?_ _)); exact BK103.out) hg (by simp [Value.ownBlock])); have n3_ := Aside0.mk (hb); have n4_ := Aside0.mk (ho); clear BK101; clear BK102; clear BK103; clear HB; have BK101 := n0_; have BK102 := n1_; have BK103 := n2_; have HB := n3_; have HO106 := n4_; clear n0_ n1_ n2_ n3_ n4_; clear ho hb hg hat; obtain ⟨Ao22, co22, eo22⟩ := Kd.R_slice HO106.out; subst eo22; have hcz23_0 : w21.cell? ⟨gb103, 0, none⟩ = some (.slice none 0 0) := (blk_cell BK103.out 0).trans rfl; have hcz23_1 : w21.cell? ⟨gb103, 1, none⟩ = some (.slice none 0 0) := (blk_cell BK103.out 1).trans rfl; have hcz23_2 : w21.cell? ⟨gb103, 2, none⟩ = some (.int .i64 a2_2) := (blk_cell BK103.out 2).trans rfl; have hfz23_0 := blk_frozen BK103.out 0; have hfz23_1 := blk_frozen BK103.out 1; have hfz23_2 := blk_frozen BK103.out 2; have hcz24_0 : w21.cell? ⟨gb101, 0, none⟩ = some (.slice A2_0 l2_0.length c2_0) := (blk_cell BK101.out 0).trans rfl; have hcz24_1 : w21.cell? ⟨gb101, 1, none⟩ = some (.slice A2_1 l2_1.length c2_1) := (blk_cell BK101.out 1).trans rfl; have hcz24_2 : w21.cell? ⟨gb101, 2, none⟩ = some (.int .i64 a2_2) := (blk_cell BK101.out 2).trans rfl; have hfz24_0 := blk_frozen BK101.out 0; have hfz24_1 := blk_frozen BK101.out 1; have hfz24_2 := blk_frozen BK101.out 2) | ((with_reducible refine gate_builtin (b := .append) (xs := #[.tmp 22, .tmp 24]) rfl ?_); at_builtin; refine Kd.R_append_rows Kd.string (w0 := w) w.heap.size rfl (.tmp 22) (.tmp 24) 30 9 (.string ⟨#[]⟩) 16 rfl Tryd.underlying30 info9 rfl (by decide) (by omega) (.slice Ao22 y104.length co22) y104 l2_0 _ _ _ (fun _ => True) (fun _ => False) rfl rfl ?aO ?aR (fun _ _ h => h) (fun _ h => h.elim) ?aF ?aB ?aS ?aL ?_; (case aR => exact Kd.C_below HR2_0.out (by repeat (first | (with_reducible first | exact HB.out | apply below_alloc | apply pw_below_drewN | apply below_drew1 | refine below_set ?_ GE101.out | refine below_set ?_ GE102.out | refine below_set ?_ GE103.out) | exact HB.out))); (case aB => exact (by repeat (first | (with_reducible first | exact HB.out | apply below_alloc | apply pw_below_drewN | apply below_drew1 | refine below_set ?_ GE101.out | refine below_set ?_ GE102.out | refine below_set ?_ GE103.out) | exact HB.out))); (case aF => exact (fun _ _ => trivial)); (case aO => exact (by (with_reducible repeat (first | apply Kd.R_alloc | apply Kd.R_drewN | apply Kd.R_drew)); exact Kd.R_mono (Kd.R_far (p := ⟨gb103, 0, none⟩) (Kd.R_types HO106.out BK103.out (by decide)) (fun _ hk => hk.2) (.slice Ao22 y104.length co22)) (fun _ hk => trivial))); (case aS => exact (below_size (by repeat (first | (with_reducible first | exact HB.out | apply below_alloc | apply pw_below_drewN | apply below_drew1 | refine below_set ?_ GE101.out | refine below_set ?_ GE102.out | refine below_set ?_ GE103.out) | exact HB.out)))); (case aL => have := LMc11.out; omega); intro v108 w25 ho hb hg hat; rw [← Ny107.out] at ho; have n0_ := Aside0.mk (blk_grown (g := gb101) (o := .cells #[.slice A2_0 l2_0.length c2_0, .slice A2_1 l2_1.length c2_1, .int .i64 a2_2] 34 (0, 0)) (by (with_reducible repeat (first | refine blk_drewN ?_ _ | refine blk_drew ?_ | refine blk_alloc ?_ _)); refine blk_far ?_ NB101_103.out _; (with_reducible repeat (first | refine blk_drewN ?_ _ | refine blk_drew ?_ | refine blk_alloc ?_ _)); exact BK101.out) hg (Kd.R_ne HO106.out BK101.out (by decide))); have n1_ := Aside0.mk (blk_grown (g := gb102) (o := .cells #[.slice none 0 0, .slice none 0 0, .int .i64 0] 34 (0, 0)) (by (with_reducible repeat (first | refine blk_drewN ?_ _ | refine blk_drew ?_ | refine blk_alloc ?_ _)); refine blk_far ?_ NB102_103.out _; (with_reducible repeat (first | refine blk_drewN ?_ _ | refine blk_drew ?_ | refine blk_alloc ?_ _)); exact BK102.out) hg (Kd.R_ne HO106.out BK102.out (by decide))); have n2_ := Aside0.mk (blk_grown (g := gb103) (o := .cells #[.slice Ao22 y104.length co22, .slice none 0 0, .int .i64 a2_2] 34 (0, 0)) (by (with_reducible repeat (first | refine blk_drewN ?_ _ | refine blk_drew ?_ | refine blk_alloc ?_ _)); refine blk_put (cs := #[.slice none 0 0, .slice none 0 0, .int .i64 a2_2]) ?_ 0 _ rfl; (with_reducible repeat (first | refine blk_drewN ?_ _ | refine blk_drew ?_ | refine blk_alloc ?_ _)); exact BK103.out) hg (Kd.R_ne HO106.out BK103.out (by decide))); have n3_ := Aside0.mk (hb); have n4_ := Aside0.mk (ho); clear BK101; clear BK102; clear BK103; clear HB; clear HO106; have BK101 := n0_; have BK102 := n1_; have BK103 := n2_; have HB := n3_; have HO109 := n4_; clear n0_ n1_ n2_ n3_ n4_; clear ho hb hg hat; obtain ⟨Ao26, co26, eo26⟩ := Kd.R_slice HO109.out; subst eo26; have hcz27_0 : w25.cell? ⟨gb103, 0, none⟩ = some (.slice Ao22 y104.length co22) := (blk_cell BK103.out 0).trans rfl; have hcz27_1 : w25.cell? ⟨gb103, 1, none⟩ = some (.slice none 0 0) := (blk_cell BK103.out 1).trans rfl; have hcz27_2 : w25.cell? ⟨gb103, 2, none⟩ = some (.int .i64 a2_2) := (blk_cell BK103.out 2).trans rfl; have hfz27_0 := blk_frozen BK103.out 0; have hfz27_1 := blk_frozen BK103.out 1; have hfz27_2 := blk_frozen BK103.out 2) | ((with_reducible refine gate_builtin (b := .append) (xs := #[.tmp 28, .tmp 30]) rfl ?_); at_builtin; refine Kd.R_append Kd.string (w0 := w) w.heap.size rfl (.tmp 28) (.tmp 30) 30 9 (.string ⟨#[]⟩) 16 rfl Tryd.underlying30 info9 rfl (by decide) (by omega) (.slice none 0 0) ([] : List ByteArray) a1 [.string a1] (fun k_ => some k_ ≠ (.slice Ao26 y107.length co26 : Value).ownBlock) (fun _ => False) rfl (by first | (go_simp; done) | (go_simp; rfl)) ?aP (fun _ hk => hk.elim) ?aF ?aO ?aB ?aS ?aL ?_; (case aP => exact rfl); (case aB => exact (by repeat (first | (with_reducible first | exact HB.out | apply below_alloc | apply pw_below_drewN | apply below_drew1 | refine below_set ?_ GE101.out | refine below_set ?_ GE102.out | refine below_set ?_ GE103.out) | exact HB.out))); (case aF => exact (fun k_ hk => Kd.fresh' (Kd.R_lt (by (with_reducible repeat (first | apply Kd.R_alloc | apply Kd.R_drewN | apply Kd.R_drew)); exact (Kd.R_mono (Kd.R_far (p := ⟨gb103, 0, none⟩) (Kd.R_types HO109.out BK103.out (by decide)) (fun _ hk => hk.2) (.slice Ao26 y107.length co26)) (fun _ h_ => h_.1)))) k_ hk)); (case aO => exact ((Kd.R_nil _ _ _ _ (fun k_ => some k_ ≠ (.slice Ao26 y107.length co26 : Value).ownBlock)))); (case aS => exact (below_size (by repeat (first | (with_reducible first | exact HB.out | apply below_alloc | apply pw_below_drewN | apply below_drew1 | refine below_set ?_ GE101.out | refine below_set ?_ GE102.out | refine below_set ?_ GE103.out) | exact HB.out)))); (case aL => have := LMc10.out; omega); intro v111 w28 ho hb hg hat; rw [← Ny110.out] at ho; have n0_ := Aside0.mk (blk_grown (g := gb101) (o := .cells #[.slice A2_0 l2_0.length c2_0, .slice A2_1 l2_1.length c2_1, .int .i64 a2_2] 34 (0, 0)) (by (with_reducible repeat (first | refine blk_drewN ?_ _ | refine blk_drew ?_ | refine blk_alloc ?_ _)); refine blk_far ?_ NB101_103.out _; (with_reducible repeat (first | refine blk_drewN ?_ _ | refine blk_drew ?_ | refine blk_alloc ?_ _)); exact BK101.out) hg (by simp [Value.ownBlock])); have n1_ := Aside0.mk (blk_grown (g := gb102) (o := .cells #[.slice none 0 0, .slice none 0 0, .int .i64 0] 34 (0, 0)) (by (with_reducible repeat (first | refine blk_drewN ?_ _ | refine blk_drew ?_ | refine blk_alloc ?_ _)); refine blk_far ?_ NB102_103.out _; (with_reducible repeat (first | refine blk_drewN ?_ _ | refine blk_drew ?_ | refine blk_alloc ?_ _)); exact BK102.out) hg (by simp [Value.ownBlock])); have n2_ := Aside0.mk (blk_grown (g := gb103) (o := .cells #[.slice Ao26 y107.length co26, .slice none 0 0, .int .i64 a2_2] 34 (0, 0)) (by (with_reducible repeat (first | refine blk_drewN ?_ _ | refine blk_drew ?_ | refine blk_alloc ?_ _)); refine blk_put (cs := #[.slice Ao22 y104.length co22, .slice none 0 0, .int .i64 a2_2]) ?_ 0 _ rfl; (with_reducible repeat (first | refine blk_drewN ?_ _ | refine blk_drew ?_ | refine blk_alloc ?_ _)); exact BK103.out) hg (by simp [Value.ownBlock])); have n3_ := Aside0.mk (Kd.R_after (Kd.R_apart_nil (by (with_reducible repeat (first | apply Kd.R_alloc | apply Kd.R_drewN | apply Kd.R_drew)); exact (Kd.R_mono (Kd.R_far (p := ⟨gb103, 0, none⟩) (Kd.R_types HO109.out BK103.out (by decide)) (fun _ hk => hk.2) (.slice Ao26 y107.length co26)) (fun _ h_ => h_.1)))) hg hat); have n4_ := Aside0.mk (hb); have n5_ := Aside0.mk (ho); clear BK101; clear BK102; clear BK103; clear HO109; clear HB; have BK101 := n0_; have BK102 := n1_; have BK103 := n2_; have HO109 := n3_; have HB := n4_; have HO112 := n5_; clear n0_ n1_ n2_ n3_ n4_ n5_; clear ho hb hg hat; obtain ⟨Ao29, co29, eo29⟩ := Kd.R_slice HO112.out; subst eo29; have hcz30_0 : w28.cell? ⟨gb103, 0, none⟩ = some (.slice Ao26 y107.length co26) := (blk_cell BK103.out 0).trans rfl; have hcz30_1 : w28.cell? ⟨gb103, 1, none⟩ = some (.slice none 0 0) := (blk_cell BK103.out 1).trans rfl; have hcz30_2 : w28.cell? ⟨gb103, 2, none⟩ = some (.int .i64 a2_2) := (blk_cell BK103.out 2).trans rfl; have hfz30_0 := blk_frozen BK103.out 0; have hfz30_1 := blk_frozen BK103.out 1; have hfz30_2 := blk_frozen BK103.out 2; have hcz31_0 : w28.cell? ⟨gb101, 0, none⟩ = some (.slice A2_0 l2_0.length c2_0) := (blk_cell BK101.out 0).trans rfl; have hcz31_1 : w28.cell? ⟨gb101, 1, none⟩ = some (.slice A2_1 l2_1.length c2_1) := (blk_cell BK101.out 1).trans rfl; have hcz31_2 : w28.cell? ⟨gb101, 2, none⟩ = some (.int .i64 a2_2) := (blk_cell BK101.out 2).trans rfl; have hfz31_0 := blk_frozen BK101.out 0; have hfz31_1 := blk_frozen BK101.out 1; have hfz31_2 := blk_frozen BK101.out 2) | ((with_reducible refine gate_builtin (b := .append) (xs := #[.tmp 34, .tmp 36]) rfl ?_); at_builtin; refine Kd.R_append_rows Kd.string (w0 := w) w.heap.size rfl (.tmp 34) (.tmp 36) 30 9 (.string ⟨#[]⟩) 16 rfl Tryd.underlying30 info9 rfl (by decide) (by omega) (.slice Ao29 y110.length co29) y110 l2_1 _ _ _ (fun k_ => some k_ ≠ (.slice Ao26 y107.length co26 : Value).ownBlock) (fun _ => False) rfl rfl ?aO ?aR (fun _ _ h => h) (fun _ h => h.elim) ?aF ?aB ?aS ?aL ?_; (case aR => exact Kd.C_below HR2_1.out (by repeat (first | (with_reducible first | exact HB.out | apply below_alloc | apply pw_below_drewN | apply below_drew1 | refine below_set ?_ GE101.out | refine below_set ?_ GE102.out | refine below_set ?_ GE103.out) | exact HB.out))); (case aB => exact (by repeat (first | (with_reducible first | exact HB.out | apply below_alloc | apply pw_below_drewN | apply below_drew1 | refine below_set ?_ GE101.out | refine below_set ?_ GE102.out | refine below_set ?_ GE103.out) | exact HB.out))); (case aF => exact (fun k_ hk => Kd.fresh' (Kd.R_lt (by (with_reducible repeat (first | apply Kd.R_alloc | apply Kd.R_drewN | apply Kd.R_drew)); exact (Kd.R_mono (Kd.R_far (p := ⟨gb103, 1, none⟩) (Kd.R_types HO109.out BK103.out (by decide)) (fun _ hk => hk.2) (.slice Ao29 y110.length co29)) (fun _ h_ => h_.1)))) k_ hk)); (case aO => exact (by (with_reducible repeat (first | apply Kd.R_alloc | apply Kd.R_drewN | apply Kd.R_drew)); exact Kd.R_mono (Kd.R_far (p := ⟨gb103, 1, none⟩) (Kd.R_types HO112.out BK103.out (by decide)) (fun _ hk => hk.2) (.slice Ao29 y110.length co29)) (fun _ hk => hk.1))); (case aS => exact (below_size (by repeat (first | (with_reducible first | exact HB.out | apply below_alloc | apply pw_below_drewN | apply below_drew1 | refine below_set ?_ GE101.out | refine below_set ?_ GE102.out | refine below_set ?_ GE103.out) | exact HB.out)))); (case aL => have := LMc12.out; omega); intro v114 w32 ho hb hg hat; rw [← Ny113.out] at ho; have n0_ := Aside0.mk (blk_grown (g := gb101) (o := .cells #[.slice A2_0 l2_0.length c2_0, .slice A2_1 l2_1.length c2_1, .int .i64 a2_2] 34 (0, 0)) (by (with_reducible repeat (first | refine blk_drewN ?_ _ | refine blk_drew ?_ | refine blk_alloc ?_ _)); refine blk_far ?_ NB101_103.out _; (with_reducible repeat (first | refine blk_drewN ?_ _ | refine blk_drew ?_ | refine blk_alloc ?_ _)); exact BK101.out) hg (Kd.R_ne HO112.out BK101.out (by decide))); have n1_ := Aside0.mk (blk_grown (g := gb102) (o := .cells #[.slice none 0 0, .slice none 0 0, .int .i64 0] 34 (0, 0)) (by (with_reducible repeat (first | refine blk_drewN ?_ _ | refine blk_drew ?_ | refine blk_alloc ?_ _)); refine blk_far ?_ NB102_103.out _; (with_reducible repeat (first | refine blk_drewN ?_ _ | refine blk_drew ?_ | refine blk_alloc ?_ _)); exact BK102.out) hg (Kd.R_ne HO112.out BK102.out (by decide))); have n2_ := Aside0.mk (blk_grown (g := gb103) (o := .cells #[.slice Ao26 y107.length co26, .slice Ao29 y110.length co29, .int .i64 a2_2] 34 (0, 0)) (by (with_reducible repeat (first | refine blk_drewN ?_ _ | refine blk_drew ?_ | refine blk_alloc ?_ _)); refine blk_put (cs := #[.slice Ao26 y107.length co26, .slice none 0 0, .int .i64 a2_2]) ?_ 1 _ rfl; (with_reducible repeat (first | refine blk_drewN ?_ _ | refine blk_drew ?_ | refine blk_alloc ?_ _)); exact BK103.out) hg (Kd.R_ne HO112.out BK103.out (by decide))); have n3_ := Aside0.mk (Kd.R_after (ok := (fun _ => True)) (by (with_reducible repeat (first | apply Kd.R_alloc | apply Kd.R_drewN | apply Kd.R_drew)); exact Kd.R_mono (Kd.R_far (p := ⟨gb103, 1, none⟩) (Kd.R_types HO109.out BK103.out (by decide)) (fun _ hk => hk.2) (.slice Ao29 y110.length co29)) (fun _ hk => ⟨trivial, hk.1.2⟩)) hg hat); have n4_ := Aside0.mk (hb); have n5_ := Aside0.mk (ho); clear BK101; clear BK102; clear BK103; clear HO109; clear HB; clear HO112; have BK101 := n0_; have BK102 := n1_; have BK103 := n2_; have HO109 := n3_; have HB := n4_; have HO115 := n5_; clear n0_ n1_ n2_ n3_ n4_ n5_; clear ho hb hg hat; obtain ⟨Ao33, co33, eo33⟩ := Kd.R_slice HO115.out; subst eo33; have hcz34_0 : w32.cell? ⟨gb103, 0, none⟩ = some (.slice Ao26 y107.length co26) := (blk_cell BK103.out 0).trans rfl; have hcz34_1 : w32.cell? ⟨gb103, 1, none⟩ = some (.slice Ao29 y110.length co29) := (blk_cell BK103.out 1).trans rfl; have hcz34_2 : w32.cell? ⟨gb103, 2, none⟩ = some (.int .i64 a2_2) := (blk_cell BK103.out 2).trans rfl; have hfz34_0 := blk_frozen BK103.out 0; have hfz34_1 := blk_frozen BK103.out 1; have hfz34_2 := blk_frozen BK103.out 2; have hcz35_0 : w32.cell? ⟨gb102, 0, none⟩ = some (.slice none 0 0) := (blk_cell BK102.out 0).trans rfl; have hcz35_1 : w32.cell? ⟨gb102, 1, none⟩ = some (.slice none 0 0) := (blk_cell BK102.out 1).trans rfl; have hcz35_2 : w32.cell? ⟨gb102, 2, none⟩ = some (.int .i64 0) := (blk_cell BK102.out 2).trans rfl; have hfz35_0 := blk_frozen BK102.out 0; have hfz35_1 := blk_frozen BK102.out 1; have hfz35_2 := blk_frozen BK102.out 2))
          refine bodyPost_ret (results_cell_row rfl _ _ gb102 34 #[.slice Ao26 y107.length co26, .slice Ao33 y113.length co33, .int .i64 a2_2] (0, 0) _ rfl (by (with_reducible repeat (first | refine blk_drewN ?_ _ | refine blk_drew ?_ | refine blk_alloc ?_ _)); refine blk_put (cs := #[.slice Ao26 y107.length co26, .slice Ao33 y113.length co33, .int .i64 0]) ?_ 2 _ rfl; (with_reducible repeat (first | refine blk_drewN ?_ _ | refine blk_drew ?_ | refine blk_alloc ?_ _)); refine blk_put (cs := #[.slice Ao26 y107.length co26, .slice none 0 0, .int .i64 0]) ?_ 1 _ rfl; (with_reducible repeat (first | refine blk_drewN ?_ _ | refine blk_drew ?_ | refine blk_alloc ?_ _)); refine blk_put (cs := #[.slice none 0 0, .slice none 0 0, .int .i64 0]) ?_ 0 _ rfl; (with_reducible repeat (first | refine blk_drewN ?_ _ | refine blk_drew ?_ | refine blk_alloc ?_ _)); refine blk_far ?_ NB102_103.out _; (with_reducible repeat (first | refine blk_drewN ?_ _ | refine blk_drew ?_ | refine blk_alloc ?_ _)); exact BK102.out) Tryd.underlying34 rfl (by kernel_rfl)) rfl ?_
          exact ⟨_, _, by first | rfl | (simp [errW_none, errW_some] <;> rfl) | (simp [*, errW_none, errW_some] <;> rfl), by (with_reducible repeat (first | apply Kd.R_alloc | apply Kd.R_drewN | apply Kd.R_drew)); exact Kd.R_mono (Kd.R_far (p := ⟨gb102, 2, none⟩) (Kd.R_far (p := ⟨gb102, 1, none⟩) (Kd.R_far (p := ⟨gb102, 0, none⟩) (Kd.R_far (p := ⟨gb103, 1, none⟩) (Kd.R_types (Kd.R_types HO109.out BK103.out (by decide)) BK102.out (by decide)) (fun _ hk => hk.1.2) (.slice Ao33 y113.length co33)) (fun _ hk => hk.2) (.slice Ao26 y107.length co26)) (fun _ hk => hk.2) (.slice Ao33 y113.length co33)) (fun _ hk => hk.2) (.int .i64 a2_2)) (fun _ hk => hk.1.1.2), by (with_reducible repeat (first | apply Kd.R_alloc | apply Kd.R_drewN | apply Kd.R_drew)); exact Kd.R_mono (Kd.R_far (p := ⟨gb102, 2, none⟩) (Kd.R_far (p := ⟨gb102, 1, none⟩) (Kd.R_far (p := ⟨gb102, 0, none⟩) (Kd.R_far (p := ⟨gb103, 1, none⟩) (Kd.R_types (Kd.R_types HO115.out BK103.out (by decide)) BK102.out (by decide)) (fun _ hk => hk.1.2) (.slice Ao33 y113.length co33)) (fun _ hk => hk.2) (.slice Ao26 y107.length co26)) (fun _ hk => hk.2) (.slice Ao33 y113.length co33)) (fun _ hk => hk.2) (.int .i64 a2_2)) (fun _ hk => hk.1.1), by repeat (first | (with_reducible first | exact HB.out | apply below_alloc | apply pw_below_drewN | apply below_drew1 | refine below_set ?_ GE101.out | refine below_set ?_ GE102.out | refine below_set ?_ GE103.out) | exact HB.out)⟩
        · rw [if_neg c12] at H
          exact absurd H (by simp)
      · rw [if_neg c11] at H
        exact absurd H (by simp)
    · rw [if_neg c10] at H
      exact absurd H (by simp)

end Go.Proofs.YtfmmmojlnfndkaaDoor.Z

namespace Go.Proofs.YtfmmmojlnfndkaaDoor.As
open Go.RowKit Go.Proofs.YtfmmmojlnfndkaaDoorW.PrintWords Go.Proofs.YtfmmmojlnfndkaaDoorW.PrintLast Go.Extern.Stop Go.Stop Go.Extern
set_option linter.unusedVariables false
set_option linter.unusedSimpArgs false
/-- A chain that leaves a block alone. -/
inductive Cz (w : World) (z : Nat) : Value → List (ByteArray × ByteArray) → Int → Prop
  | errno (e : Int) : Cz w z (.iface 22 (.int .i64 e)) [] e
  | wrap (b : Nat) (op what : ByteArray) (v : Value) (l : List (ByteArray × ByteArray)) (e : Int) : z < b → w.heap[b]? = some (.cells #[.string op, .string what, v] 46) → Cz w z v l e → Cz w z (.iface 40 (.pointer (some ⟨b, 0, none⟩))) ((op, what) :: l) e
section
variable {w w' : World} {z : Nat} {v : Value} {l : List (ByteArray × ByteArray)} {e : Int}
theorem Cz.keep (h : Cz w z v l e) (hk : ∀ b, b < w.heap.size → z < b → w'.heap[b]? = w.heap[b]?) : Cz w' z v l e := by
  induction h with
  | errno e => exact .errno e
  | wrap b op what v l e hb h1 _ ih => exact .wrap b op what v l e hb ((hk b (Array.getElem?_eq_some_iff.1 h1).1 hb).trans h1) ih
theorem Cz.on (h : Cz w z v l e) (hb : Below w.heap.size w w') : Cz w' z v l e := h.keep fun b hl _ => hb.block b hl
theorem Cz.cw (h : Cz w z v l e) : Cw w v l e := by
  induction h with
  | errno e => exact .errno e
  | wrap b op what v l e hb h1 _ ih => exact .wrap b op what v l e h1 ih
end
theorem Laid.keep {w w' : World} {z : Nat} (h : Laid w) (hk : KeepBut w w' z none) (hz : 0 < w.heap.size → 1 < z) : Laid w' := by
  have hp := laid_pos h
  have h2 := h.2
  refine ⟨?_, ?_⟩
  · have := h.1
    simp only [World.cell?, hk.2 0 hp (by have := hz hp; omega) (by simp)] at this ⊢
    exact this
  · unfold Lib.TabIs at h2 ⊢
    unfold World.var? at h2 ⊢
    rw [pow10_global, Option.bind_some] at h2 ⊢
    cases hc : w.heap[1]? with
    | none => rw [hc] at h2; cases h2
    | some o =>
      rw [hc] at h2
      have hl := (Array.getElem?_eq_some_iff.1 hc).1
      rw [hk.2 1 hl (by have := hz hp; omega) (by simp), hc]; exact h2
/-- Where wrapped stands behind k rounds, the errno not OK. -/
structure Wr (w0 w : World) (e : Int) (k : Nat) (u : Value) (P : List (ByteArray × ByteArray)) (v0 v1 : Value) : Prop where
  laid : Laid w
  below : Below w0.heap.size w0 w
  z : w.heap[w0.heap.size + 1]? = some (.cells #[v0, v1, .int .i64 e] 34)
  y : w.heap[w0.heap.size]? = some (.cells #[.slice none 0 0, .slice none 0 0, .int .i64 0] 34)
  r0 : Kd.R Kd.string 9 w w0.heap.size (fun k => k ≠ w0.heap.size + 1 ∧ k ≠ w0.heap.size) v0 (P.map (·.1))
  r1 : Kd.R Kd.string 9 w w0.heap.size (fun k => k ≠ w0.heap.size + 1 ∧ k ≠ w0.heap.size) v1 (P.map (·.2))
  chain : Cz w (w0.heap.size + 1) u P e
  len : P.length = k
  big : big P
  start : 0 < w0.heap.size
theorem cells3 {w : World} {z : Nat} {v0 v1 v2 : Value} (h : w.heap[z]? = some (.cells #[v0, v1, v2] 34)) : w.cell? ⟨z, 0, none⟩ = some v0 ∧ w.cell? ⟨z, 1, none⟩ = some v1 ∧ w.cell? ⟨z, 2, none⟩ = some v2 ∧ w.frozen? ⟨z, 0, none⟩ = false ∧ w.frozen? ⟨z, 1, none⟩ = false ∧ w.frozen? ⟨z, 2, none⟩ = false := by
  refine ⟨?_, ?_, ?_, ?_, ?_, ?_⟩
  · simp only [World.cell?, h]; rfl
  · simp only [World.cell?, h]; rfl
  · simp only [World.cell?, h]; rfl
  · simp only [World.frozen?, h]; rfl
  · simp only [World.frozen?, h]; rfl
  · simp only [World.frozen?, h]; rfl
theorem wr_start (w : World) (e : Int) (hL : Laid w) : Wr w ((w.alloc (.cells #[.slice none 0 0, .slice none 0 0, .int .i64 0] 34)).alloc (.cells #[.slice none 0 0, .slice none 0 0, .int .i64 e] 34)) e 0 (.iface 22 (.int .i64 e)) [] (.slice none 0 0) (.slice none 0 0) := by
  have hb : Below w.heap.size w ((w.alloc (.cells #[.slice none 0 0, .slice none 0 0, .int .i64 0] 34)).alloc (.cells #[.slice none 0 0, .slice none 0 0, .int .i64 e] 34)) := Below.alloc (Below.alloc (Below.refl _ _) (Nat.le_refl _) _) (by simp) _
  have hz := heap_new (w.alloc (.cells #[.slice none 0 0, .slice none 0 0, .int .i64 0] 34)) (.cells #[.slice none 0 0, .slice none 0 0, .int .i64 e] 34)
  have hs : (w.alloc (.cells #[.slice none 0 0, .slice none 0 0, .int .i64 0] 34)).heap.size = w.heap.size + 1 := by simp
  rw [hs] at hz
  exact ⟨hL.on hb, hb, hz, heap_old _ (heap_new w _), Kd.R_nil _ _ _ _ _, Kd.R_nil _ _ _ _ _, .errno e, rfl, fun p hp => (by cases hp), laid_pos hL⟩
theorem wrap_f (x h : ByteArray) (P : List (ByteArray × ByteArray)) (e : Int) (he : e ≠ 0) (hl : P.length ≤ 1048576) : Z.pumiceref04_Wrap.f x h (P.map (·.1)) (P.map (·.2)) e = some (((x, h) :: P).map (·.1), ((x, h) :: P).map (·.2), e) := by
  unfold Z.pumiceref04_Wrap.f
  rw [if_neg he, if_pos (by simp), Option.bind_some, if_pos (by simp; omega), Option.bind_some, if_pos (by simp; omega)]
  rfl
theorem heap_set {w : World} {b i : Nat} {cs : Array Value} {t : TypeId} {fz : Nat × Nat} (v : Value) (h : w.heap[b]? = some (.cells cs t fz)) : (w.setCell ⟨b, i, none⟩ v).heap[b]? = some (.cells (cs.setIfInBounds i v) t fz) := by
  have hl := (Array.getElem?_eq_some_iff.1 h).1
  simp [World.setCell, Array.getElem?_modify, h]
theorem R_next {w2 w3 W : World} {B z : Nat} {v : Value} {xs : List ByteArray} {ok : Nat → Prop} (h : Kd.R Kd.string 9 w3 w2.heap.size ok v xs) (hB : B ≤ w2.heap.size) (hz : z < w2.heap.size) (hz1 : B ≤ z) (hB1 : B < w2.heap.size) (hk : KeepBut w3 W z none) : Kd.R Kd.string 9 W B (fun k => k ≠ z ∧ k ≠ B) v xs := by
  have hb := Kd.R_bound h
  have h1 := Kd.R_keep hb hk (fun k hk => by have := hk.2.1; omega)
  exact Kd.R_mono (Kd.R_lower h1 hB) (fun k hk => ⟨by have := hk.2.1; omega, by have := hk.2.1; omega⟩)
theorem wr_step {w wr w2 w3 : World} {e : Int} {k b : Nat} {u v0 v1 s0 s1 : Value} {P : List (ByteArray × ByteArray)} {x h : ByteArray} {ok0 ok1 : Nat → Prop} (HW : Wr w wr e k u P v0 v1) (hb2 : Below wr.heap.size wr w2) (hh : w2.heap[b]? = some (.cells #[.string x, .string h, u] 46)) (hbl : wr.heap.size ≤ b) (hb3 : Below w2.drew.heap.size w2.drew w3)
    (r0 : Kd.R Kd.string 9 w3 w2.drew.heap.size ok0 s0 (((x, h) :: P).map (·.1))) (r1 : Kd.R Kd.string 9 w3 w2.drew.heap.size ok1 s1 (((x, h) :: P).map (·.2))) (hx : x.size ≤ 1048576) (hy : h.size ≤ 1048576) :
    Wr w (((w3.setCell ⟨w.heap.size + 1, 0, none⟩ s0).setCell ⟨w.heap.size + 1, 1, none⟩ s1).setCell ⟨w.heap.size + 1, 2, none⟩ (.int .i64 e)) e (k + 1) (.iface 40 (.pointer (some ⟨b, 0, none⟩))) ((x, h) :: P) s0 s1 := by
  have hzl : w.heap.size + 1 < wr.heap.size := (Array.getElem?_eq_some_iff.1 HW.z).1
  have h2 : wr.heap.size ≤ w2.heap.size := hb2.size
  have hb23 : Below w2.heap.size w2 w3 := below_step (below_drew (Below.refl _ w2)) hb3
  have hz3 := heap_below hb23 (heap_below hb2 HW.z)
  have hy3 := heap_below hb23 (heap_below hb2 HW.y)
  have hk : KeepBut w3 (((w3.setCell ⟨w.heap.size + 1, 0, none⟩ s0).setCell ⟨w.heap.size + 1, 1, none⟩ s1).setCell ⟨w.heap.size + 1, 2, none⟩ (.int .i64 e)) (w.heap.size + 1) none :=
    (((KeepBut.refl w3 (w.heap.size + 1) none).set_ 0 s0).set_ 1 s1).set_ 2 (.int .i64 e)
  have hz4 := heap_set (i := 2) (.int .i64 e) (heap_set (i := 1) s1 (heap_set (i := 0) s0 hz3))
  have hbw : Below w.heap.size w (((w3.setCell ⟨w.heap.size + 1, 0, none⟩ s0).setCell ⟨w.heap.size + 1, 1, none⟩ s1).setCell ⟨w.heap.size + 1, 2, none⟩ (.int .i64 e)) := by
    refine Below.setCell (Below.setCell (Below.setCell (below_step (below_step HW.below hb2) hb23) ?_ s0) ?_ s1) ?_ _ <;> exact Nat.le_succ _
  obtain ⟨W, hW⟩ : ∃ W, W = (((w3.setCell ⟨w.heap.size + 1, 0, none⟩ s0).setCell ⟨w.heap.size + 1, 1, none⟩ s1).setCell ⟨w.heap.size + 1, 2, none⟩ (.int .i64 e)) := ⟨_, rfl⟩
  rw [← hW] at hk hz4 hbw ⊢
  clear hW
  have hkeep : ∀ j, j < w2.heap.size → j ≠ w.heap.size + 1 → W.heap[j]? = w2.heap[j]? := fun j hj hn => (hk.2 j (Nat.lt_of_lt_of_le hj hb23.size) hn (by simp)).trans (hb23.block j hj)
  refine ⟨?_, hbw, hz4, ?_, ?_, ?_, ?_, ?_, ?_, HW.start⟩
  · exact ((HW.laid.on hb2).on hb23).keep hk (fun _ => by have := HW.start; omega)
  · exact (hk.2 _ (Array.getElem?_eq_some_iff.1 hy3).1 (by omega) (by simp)).trans hy3
  · exact R_next (w2 := w2) r0 (by omega) (by omega) (by omega) (by omega) hk
  · exact R_next (w2 := w2) r1 (by omega) (by omega) (by omega) (by omega) hk
  · refine .wrap b x h u P e (by omega) ((hkeep b (Array.getElem?_eq_some_iff.1 hh).1 (by omega)).trans hh) ?_
    exact HW.chain.keep fun j hj hn => (hkeep j (by omega) (by omega)).trans (hb2.block j hj)
  · simp only [List.length_cons]; rw [HW.len]
  · intro p hp
    rcases List.mem_cons.1 hp with rfl | hp
    · exact ⟨hx, hy⟩
    · exact HW.big p hp
theorem R_end {wr W : World} {B : Nat} {v : Value} {xs : List ByteArray} (h : Kd.R Kd.string 9 wr B (fun k => k ≠ B + 1 ∧ k ≠ B) v xs) (hk : KeepBut wr W B none) : Kd.R Kd.string 9 W B (fun _ => True) v xs :=
  Kd.R_mono (Kd.R_keep h hk (fun k hk => hk.2)) (fun _ _ => trivial)
/-- How wrapped ends. -/
def W17 (w : World) (e : Int) (n : Nat) (ev : Ending) (w' : World) : Prop := ∃ (u v0 v1 : Value) (P : List (ByteArray × ByteArray)), ev = .returned (.tuple #[u, .agg #[v0, v1, .int .i64 e]]) ∧ Cw w' u P e ∧ P.length = n ∧ big P ∧ Kd.R Kd.string 9 w' w.heap.size (fun _ => True) v0 (P.map (·.1)) ∧ Kd.R Kd.string 9 w' w.heap.size (fun _ => True) v1 (P.map (·.2)) ∧ Below w.heap.size w w'
theorem wr_end {w wr : World} {e : Int} {k : Nat} {u v0 v1 : Value} {P : List (ByteArray × ByteArray)} (HW : Wr w wr e k u P v0 v1) :
    W17 w e k (.returned (.tuple #[u, .agg #[v0, v1, .int .i64 e]])) (((wr.setCell ⟨w.heap.size, 0, none⟩ v0).setCell ⟨w.heap.size, 1, none⟩ v1).setCell ⟨w.heap.size, 2, none⟩ (.int .i64 e)).drew := by
  have hk0 : KeepBut wr (((wr.setCell ⟨w.heap.size, 0, none⟩ v0).setCell ⟨w.heap.size, 1, none⟩ v1).setCell ⟨w.heap.size, 2, none⟩ (.int .i64 e)) w.heap.size none :=
    (((KeepBut.refl wr w.heap.size none).set_ 0 v0).set_ 1 v1).set_ 2 (.int .i64 e)
  have hk : KeepBut wr (((wr.setCell ⟨w.heap.size, 0, none⟩ v0).setCell ⟨w.heap.size, 1, none⟩ v1).setCell ⟨w.heap.size, 2, none⟩ (.int .i64 e)).drew w.heap.size none := hk0
  have hbw : Below w.heap.size w (((wr.setCell ⟨w.heap.size, 0, none⟩ v0).setCell ⟨w.heap.size, 1, none⟩ v1).setCell ⟨w.heap.size, 2, none⟩ (.int .i64 e)).drew := by
    refine below_drew (Below.setCell (Below.setCell (Below.setCell HW.below ?_ v0) ?_ v1) ?_ _) <;> exact Nat.le_refl _
  exact ⟨u, v0, v1, P, rfl, (HW.chain.keep fun j hj hn => hk.2 j hj (by omega) (by simp)).cw, HW.len, HW.big, R_end HW.r0 hk, R_end HW.r1 hk, hbw⟩
theorem y_after {w : World} {z : Nat} {a b c v0 v1 v2 : Value} (h : w.heap[z]? = some (.cells #[a, b, c] 34)) : (((w.setCell ⟨z, 0, none⟩ v0).setCell ⟨z, 1, none⟩ v1).setCell ⟨z, 2, none⟩ v2).drew.heap[z]? = some (.cells #[v0, v1, v2] 34) :=
  heap_set (i := 2) v2 (heap_set (i := 1) v1 (heap_set (i := 0) v0 h))
theorem wrap_at (x h : ByteArray) (P : List (ByteArray × ByteArray)) (e : Int) (A2 A3 : Option Addr) (c2 c3 : Nat) (W : World) (h0 : Kd.C Kd.string W A2 (P.map (·.1)).length (P.map (·.1))) (h1 : Kd.C Kd.string W A3 (P.map (·.2)).length (P.map (·.2))) (n0 : (P.map (·.1)).length ≤ c2) (n1 : (P.map (·.2)).length ≤ c3) (hf : Z.pumiceref04_Wrap.f x h (P.map (·.1)) (P.map (·.2)) e = some (((x, h) :: P).map (·.1), ((x, h) :: P).map (·.2), e)) :
    Calls Tryd.prog 36 #[.string x, .string h, .agg #[.slice A2 P.length c2, .slice A3 P.length c3, .int .i64 e]] W fun e' w' => ∃ v0 v1 : Value, e' = .returned (.agg #[v0, v1, .int .i64 e]) ∧ Kd.R Kd.string 9 w' W.heap.size (fun k => some k ≠ v1.ownBlock) v0 (((x, h) :: P).map (·.1)) ∧ Kd.R Kd.string 9 w' W.heap.size (fun k => some k ≠ v0.ownBlock) v1 (((x, h) :: P).map (·.2)) ∧ Below W.heap.size W w' := by
  have hh := Z.pumiceref04_Wrap.calls x h A2 c2 (P.map (·.1)) A3 c3 (P.map (·.2)) e _ _ _ W h0 n0 h1 n1 hf
  simp only [List.length_map] at hh
  exact hh
set_option maxHeartbeats 8000000 in
set_option maxRecDepth 100000 in
theorem wrappedE (A0 : Option Addr) (c0 : Nat) (l0 : List ByteArray) (A1 : Option Addr) (c1 : Nat) (l1 : List ByteArray) (e : Int) (w : World) (hL : Laid w) (hr0 : Kd.C Kd.string w A0 l0.length l0) (hr1 : Kd.C Kd.string w A1 l1.length l1) (hm0 : l0.length ≤ 1048576) (hb0 : ∀ x ∈ l0, x.size ≤ 1048576) (hb1 : ∀ x ∈ l1, x.size ≤ 1048576) (he : e ≠ 0) :
    Calls Tryd.prog 17 #[.slice A0 l0.length c0, .slice A1 l1.length c1, .int .i64 e] w (W17 w e l0.length) := by
  have HR0 := Aside0.mk (texts_at hr0)
  have HR1 := Aside0.mk (texts_at hr1)
  have HL := Aside0.mk hm0
  have HB0 := Aside0.mk hb0
  have HB1 := Aside0.mk hb1
  have HG0 := Aside0.mk hL
  have HE := Aside0.mk he
  clear hr0 hr1 hb0 hb1 hL he
  go_enter Tryd.func17, Tryd.ntmps17
  have HI : Aside0 (Wr w ((w.alloc (.cells #[.slice none 0 0, .slice none 0 0, .int .i64 0] 34)).alloc (.cells #[.slice none 0 0, .slice none 0 0, .int .i64 e] 34)) e 0 (.iface 22 (.int .i64 e)) [] (.slice none 0 0) (.slice none 0 0)) := Aside0.mk (wr_start w e HG0.out)
  go_wp2
  go_loopw [8, 10] (fun u i wr => ∃ (k : Nat) (P : List (ByteArray × ByteArray)) (u' v0 v1 : Value), k ≤ l0.length ∧ u = u' ∧ i = .int .i64 k ∧ Aside0 (Wr w wr e k u' P v0 v1)) (fun _ i _ => l0.length - (intOf i).toNat)
  case atStart => exact ⟨0, [], _, _, _, by omega, rfl, rfl, HI⟩
  case round =>
    obtain ⟨k, P, u, v0, v1, hk, h1, rfl, HW⟩ := hrel
    obtain rfl := h1.symm
    clear h1
    by_cases hlt : k < l0.length
    · have HLT := Aside0.mk hlt
      have hl64 := HL.out
      obtain ⟨x, hx⟩ : ∃ x, l0[k]? = some x := ⟨_, List.getElem?_eq_getElem hlt⟩
      have HXs := Aside0.mk (HB0.out x (List.mem_of_getElem? hx))
      obtain ⟨b1, off1, h1⟩ := HR0.out
      obtain ⟨rfl, c1⟩ := h1 k x hx
      have y1 := cell_below HW.out.below c1
      clear h1 hx c1
      have hk1 : (k : Int) < l0.length := by omega
      obtain ⟨tv, xv, hv⟩ := HW.out.chain.cw.iface
      subst hv
      obtain ⟨A2, c2, hv0⟩ := Kd.R_slice HW.out.r0
      obtain ⟨A3, c3, hv1⟩ := Kd.R_slice HW.out.r1
      subst hv0 hv1
      have HEn : Aside0 (ofR (some e) ≠ 0) := HE
      have HN0 := Aside0.mk (Kd.R_reads' HW.out.r0).2.1
      have HN1 := Aside0.mk (Kd.R_reads' HW.out.r1).2.1
      by_cases hlt1 : k < l1.length
      · obtain ⟨h, hx⟩ : ∃ h, l1[k]? = some h := ⟨_, List.getElem?_eq_getElem hlt1⟩
        have HHs := Aside0.mk (HB1.out h (List.mem_of_getElem? hx))
        obtain ⟨b3, off3, h1⟩ := HR1.out
        obtain ⟨rfl, c1⟩ := h1 k h hx
        have y3 := cell_below HW.out.below c1
        clear h1 hx c1
        have hk3 : (k : Int) < l1.length := by omega
        have HF := Aside0.mk (wrap_f x h P e HE.out (by have := HW.out.len; omega))
        go_upto_region 10 with (first | ((with_reducible refine gate_callee (f := 25) rfl ?_); refine goesL_ (some 36) rfl rfl Tryd.func25 (by kernel_rfl) rfl #[.string x, .string h, .iface tv xv] rfl (by (try simp only [List.map_toArray, List.map_cons, List.map_nil]); first | done | rfl) ?_; (with_reducible refine (wrapCh x h _ P.length (some e) (P.map (·.1)) _ HW.out.chain.cw.ch HEn.out HW.out.laid.et).mono ?_); rintro e' w2 ⟨b, rfl, hbl, hh, hb⟩; refine ⟨_, rfl, ?_⟩; obtain ⟨z0, z1, z2, zf, zg, zh⟩ := cells3 (heap_below hb HW.out.z); have y2 := cell_below hb y1; have HB2 := Aside0.mk hb; have HH := Aside0.mk hh; have HLe := Aside0.mk hbl; clear hb hh hbl))
        have HC0 := Aside0.mk (Kd.R_reads' (Kd.R_below HW.out.r0 (below_step HB2.out (below_drew (Below.refl _ w2))))).2.2
        have HC1 := Aside0.mk (Kd.R_reads' (Kd.R_below HW.out.r1 (below_step HB2.out (below_drew (Below.refl _ w2))))).2.2
        have HZ2 : Aside0 (w2.drew.heap[w.heap.size + 1]? = _) := Aside0.mk (heap_below HB2.out HW.out.z)
        have HCW := Aside0.mk (wrap_at x h P e A2 A3 c2 c3 w2.drew HC0.out HC1.out HN0.out HN1.out HF.out)
        go_region_law (first | ((refine goes_ (f := 36) Tryd.func36 (by kernel_rfl) rfl #[.string x, .string h, .agg #[.slice A2 P.length c2, .slice A3 P.length c3, .int .i64 e]] (by rfl) rfl rfl (by (try simp only [List.map_toArray, List.map_cons, List.map_nil]); first | done | rfl) ?_); (with_reducible refine (HCW.out).mono ?_); rintro e' w3 ⟨v0', v1', rfl, r0', r1', hb3⟩; obtain ⟨A4, c4, hs0⟩ := Kd.R_slice r0'; obtain ⟨A5, c5, hs1⟩ := Kd.R_slice r1'; subst hs0 hs1; refine ⟨_, rfl, ?_⟩; simp only [List.length_map, List.length_cons] at r0' r1'; obtain ⟨z0', z1', z2', zf', zg', zh'⟩ := cells3 (heap_below hb3 HZ2.out); have HB3 := Aside0.mk hb3; have HR0' := Aside0.mk r0'; have HR1' := Aside0.mk r1'; clear hb3 r0' r1'))
        all_goals (try go_wp2)
        all_goals
          go_roundw
          case rel => exact ⟨k + 1, (x, h) :: P, _, _, _, by have := HLT.out; omega, rfl, by go_num, ⟨wr_step HW.out HB2.out HH.out HLe.out HB3.out HR0'.out HR1'.out HXs.out HHs.out⟩⟩
          case measure => simp [intOf]; have := HLT.out; omega
      · obtain ⟨h, hh0⟩ : ∃ h : ByteArray, h = ⟨#[]⟩ := ⟨_, rfl⟩
        have HHs : Aside0 (h.size ≤ 1048576) := Aside0.mk (by rw [hh0]; exact Nat.zero_le _)
        have hk3 : ¬ (k : Int) < l1.length := by omega
        clear hh0 HHs
        have HF := Aside0.mk (wrap_f x ⟨#[]⟩ P e HE.out (by have := HW.out.len; omega))
        go_upto_region 10 with (first | ((with_reducible refine gate_callee (f := 25) rfl ?_); refine goesL_ (some 36) rfl rfl Tryd.func25 (by kernel_rfl) rfl #[.string x, .string ⟨#[]⟩, .iface tv xv] rfl (by (try simp only [List.map_toArray, List.map_cons, List.map_nil]); first | done | rfl) ?_; (with_reducible refine (wrapCh x ⟨#[]⟩ _ P.length (some e) (P.map (·.1)) _ HW.out.chain.cw.ch HEn.out HW.out.laid.et).mono ?_); rintro e' w2 ⟨b, rfl, hbl, hh, hb⟩; refine ⟨_, rfl, ?_⟩; obtain ⟨z0, z1, z2, zf, zg, zh⟩ := cells3 (heap_below hb HW.out.z); have y2 := cell_below hb y1; have HB2 := Aside0.mk hb; have HH := Aside0.mk hh; have HLe := Aside0.mk hbl; clear hb hh hbl))
        have HC0 := Aside0.mk (Kd.R_reads' (Kd.R_below HW.out.r0 (below_step HB2.out (below_drew (Below.refl _ w2))))).2.2
        have HC1 := Aside0.mk (Kd.R_reads' (Kd.R_below HW.out.r1 (below_step HB2.out (below_drew (Below.refl _ w2))))).2.2
        have HZ2 : Aside0 (w2.drew.heap[w.heap.size + 1]? = _) := Aside0.mk (heap_below HB2.out HW.out.z)
        have HCW := Aside0.mk (wrap_at x ⟨#[]⟩ P e A2 A3 c2 c3 w2.drew HC0.out HC1.out HN0.out HN1.out HF.out)
        go_region_law (first | ((refine goes_ (f := 36) Tryd.func36 (by kernel_rfl) rfl #[.string x, .string ⟨#[]⟩, .agg #[.slice A2 P.length c2, .slice A3 P.length c3, .int .i64 e]] (by rfl) rfl rfl (by (try simp only [List.map_toArray, List.map_cons, List.map_nil]); first | done | rfl) ?_); (with_reducible refine (HCW.out).mono ?_); rintro e' w3 ⟨v0', v1', rfl, r0', r1', hb3⟩; obtain ⟨A4, c4, hs0⟩ := Kd.R_slice r0'; obtain ⟨A5, c5, hs1⟩ := Kd.R_slice r1'; subst hs0 hs1; refine ⟨_, rfl, ?_⟩; simp only [List.length_map, List.length_cons] at r0' r1'; obtain ⟨z0', z1', z2', zf', zg', zh'⟩ := cells3 (heap_below hb3 HZ2.out); have HB3 := Aside0.mk hb3; have HR0' := Aside0.mk r0'; have HR1' := Aside0.mk r1'; clear hb3 r0' r1'))
        all_goals (try go_wp2)
        all_goals
          go_roundw
          case rel => exact ⟨k + 1, (x, ⟨#[]⟩) :: P, _, _, _, by have := HLT.out; omega, rfl, by go_num, ⟨wr_step HW.out HB2.out HH.out HLe.out HB3.out HR0'.out HR1'.out HXs.out (Nat.zero_le _)⟩⟩
          case measure => simp [intOf]; have := HLT.out; omega
    · obtain rfl : k = l0.length := by omega
      obtain ⟨A2, c2, hv0⟩ := Kd.R_slice HW.out.r0
      obtain ⟨A3, c3, hv1⟩ := Kd.R_slice HW.out.r1
      subst hv0 hv1
      obtain ⟨z0, z1, z2, zf, zg, zh⟩ := cells3 HW.out.z
      obtain ⟨x0, x1, x2, xf, xg, xh⟩ := cells3 HW.out.y
      go_upto_region 11 with (fail)
      go_region_law (fail)
      all_goals (try go_wp2)
      have HEnd := Aside0.mk (wr_end HW.out)
      have HY := y_after (v0 := .slice A2 P.length c2) (v1 := .slice A3 P.length c3) (v2 := .int .i64 e) HW.out.y
      simp only [List.length_map] at HEnd
      refine bodyPost_ret (results_tc rfl _ _ w.heap.size 34 #[.slice A2 P.length c2, .slice A3 P.length c3, .int .i64 e] (0, 0) _ rfl HY Tryd.underlying34 rfl (by kernel_rfl)) rfl ?_
      exact HEnd.out
end Go.Proofs.YtfmmmojlnfndkaaDoor.As
