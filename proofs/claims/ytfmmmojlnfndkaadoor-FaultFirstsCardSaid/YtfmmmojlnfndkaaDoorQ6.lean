/- Functions of this seat as plain Lean functions, each with the contract that the machine keeps. No condition. Laid by wip/qprint.py. -/
import Derived.Test.YtfmmmojlnfndkaaDoorQ0
import Derived.Test.YtfmmmojlnfndkaaDoorQ1
import Derived.Test.YtfmmmojlnfndkaaDoorQ2
import Derived.Test.YtfmmmojlnfndkaaDoorQ3
import Derived.Test.YtfmmmojlnfndkaaDoorQ4
import Derived.Test.YtfmmmojlnfndkaaDoorQ5
import Derived.Test.YtfmmmojlnfndkaaDoorH3
namespace Go.Proofs.YtfmmmojlnfndkaaDoor.Q
open Go.RowKit Go.Proofs.YtfmmmojlnfndkaaDoorW.PrintWords Go.Proofs.YtfmmmojlnfndkaaDoorW.PrintLast Go.Proofs.YtfmmmojlnfndkaaDoorW.PrintMore
attribute [local go_sem] max2_int min2_int max_two min_two max_three min_three max_four min_four   -- for this text's walks alone
set_option linter.unusedVariables false
set_option linter.unusedSimpArgs false

/-! ### pumicelaw04_FaultWorse: function 7 -/
def pumicelaw04_FaultWorse.f (k : Nat) (a0 : Int) (a1 : Int) (a2 : Int) : Option (Bool) := (fault_Worse.f k a0 a1).bind fun t136 => ((fault_Worse.f k a1 a0).bind fun t137 => (if t136 = t137 then (if t136 = a0 then ((fault_Worse.f k t136 a2).bind fun t138 => ((fault_Worse.f k a1 a2).bind fun t139 => ((fault_Worse.f k a0 t139).bind fun t140 => (if t138 = t140 then ((fault_Worse.f k a0 0).bind fun t141 => (if t141 = a0 then (if t136 = 0 then (if a0 = 0 then (if a1 = 0 then ((alive.f).bind fun t142 => (some t142)) else (none)) else (none)) else ((alive.f).bind fun t143 => (some t143))) else (none))) else (none))))) else (if t136 = a1 then ((fault_Worse.f k t136 a2).bind fun t144 => ((fault_Worse.f k a1 a2).bind fun t145 => ((fault_Worse.f k a0 t145).bind fun t146 => (if t144 = t146 then ((fault_Worse.f k a0 0).bind fun t147 => (if t147 = a0 then (if t136 = 0 then (if a0 = 0 then (if a1 = 0 then ((alive.f).bind fun t148 => (some t148)) else (none)) else (none)) else ((alive.f).bind fun t149 => (some t149))) else (none))) else (none))))) else (none))) else (none)))
theorem pumicelaw04_FaultWorse.mono : ∀ a0 a1 a2 k, LeO (pumicelaw04_FaultWorse.f k a0 a1 a2) (pumicelaw04_FaultWorse.f (k + 1) a0 a1 a2) := by
  intro a0 a1 a2 k
  unfold pumicelaw04_FaultWorse.f
  repeat' first
      | (with_reducible exact fault_Worse.mono _ _ _)
      | (with_reducible exact LeO.refl _)
      | (with_reducible exact LeO.none _)
      | (with_reducible refine LeO.ite ?_ ?_)
      | (with_reducible refine LeO.bind ?_ (fun _ => ?_))
      | exact fault_Worse.mono _ _ _
      | exact LeO.none _
      | refine LeO.ite ?_ ?_
      | refine LeO.bind ?_ (fun _ => ?_)
set_option maxHeartbeats 8000000 in
set_option maxRecDepth 100000 in
theorem pumicelaw04_FaultWorse.calls (k : Nat) (a0 : Int) (a1 : Int) (a2 : Int) (r : Bool) (w : World) (HW0 : As.Laid w) (h : pumicelaw04_FaultWorse.f k a0 a1 a2 = some r) :
    Calls Tryd.prog 7 #[.int .i64 a0, .int .i64 a1, .int .i64 a2] w fun e w' => e = .returned (.bool r) ∧ Below w.heap.size w w' := by
  have HB := Aside0.mk (Below.refl w.heap.size w)
  have HW := Aside0.mk HW0
  clear HW0
  have H : ((fault_Worse.f k a0 a1).bind fun t136 => ((fault_Worse.f k a1 a0).bind fun t137 => (if t136 = t137 then (if t136 = a0 then ((fault_Worse.f k t136 a2).bind fun t138 => ((fault_Worse.f k a1 a2).bind fun t139 => ((fault_Worse.f k a0 t139).bind fun t140 => (if t138 = t140 then ((fault_Worse.f k a0 0).bind fun t141 => (if t141 = a0 then (if t136 = 0 then (if a0 = 0 then (if a1 = 0 then ((alive.f).bind fun t142 => (some t142)) else (none)) else (none)) else ((alive.f).bind fun t143 => (some t143))) else (none))) else (none))))) else (if t136 = a1 then ((fault_Worse.f k t136 a2).bind fun t144 => ((fault_Worse.f k a1 a2).bind fun t145 => ((fault_Worse.f k a0 t145).bind fun t146 => (if t144 = t146 then ((fault_Worse.f k a0 0).bind fun t147 => (if t147 = a0 then (if t136 = 0 then (if a0 = 0 then (if a1 = 0 then ((alive.f).bind fun t148 => (some t148)) else (none)) else (none)) else ((alive.f).bind fun t149 => (some t149))) else (none))) else (none))))) else (none))) else (none)))) = some r := h
  clear h
  replace H := Option.bind_eq_some_iff.mp H
  obtain ⟨t136, A40, H⟩ := H
  replace H : ((fault_Worse.f k a1 a0).bind fun t137 => (if t136 = t137 then (if t136 = a0 then ((fault_Worse.f k t136 a2).bind fun t138 => ((fault_Worse.f k a1 a2).bind fun t139 => ((fault_Worse.f k a0 t139).bind fun t140 => (if t138 = t140 then ((fault_Worse.f k a0 0).bind fun t141 => (if t141 = a0 then (if t136 = 0 then (if a0 = 0 then (if a1 = 0 then ((alive.f).bind fun t142 => (some t142)) else (none)) else (none)) else ((alive.f).bind fun t143 => (some t143))) else (none))) else (none))))) else (if t136 = a1 then ((fault_Worse.f k t136 a2).bind fun t144 => ((fault_Worse.f k a1 a2).bind fun t145 => ((fault_Worse.f k a0 t145).bind fun t146 => (if t144 = t146 then ((fault_Worse.f k a0 0).bind fun t147 => (if t147 = a0 then (if t136 = 0 then (if a0 = 0 then (if a1 = 0 then ((alive.f).bind fun t148 => (some t148)) else (none)) else (none)) else ((alive.f).bind fun t149 => (some t149))) else (none))) else (none))))) else (none))) else (none))) = some r := H
  have A4 := Aside0.mk A40
  clear A40
  replace H := Option.bind_eq_some_iff.mp H
  obtain ⟨t137, A50, H⟩ := H
  replace H : (if t136 = t137 then (if t136 = a0 then ((fault_Worse.f k t136 a2).bind fun t138 => ((fault_Worse.f k a1 a2).bind fun t139 => ((fault_Worse.f k a0 t139).bind fun t140 => (if t138 = t140 then ((fault_Worse.f k a0 0).bind fun t141 => (if t141 = a0 then (if t136 = 0 then (if a0 = 0 then (if a1 = 0 then ((alive.f).bind fun t142 => (some t142)) else (none)) else (none)) else ((alive.f).bind fun t143 => (some t143))) else (none))) else (none))))) else (if t136 = a1 then ((fault_Worse.f k t136 a2).bind fun t144 => ((fault_Worse.f k a1 a2).bind fun t145 => ((fault_Worse.f k a0 t145).bind fun t146 => (if t144 = t146 then ((fault_Worse.f k a0 0).bind fun t147 => (if t147 = a0 then (if t136 = 0 then (if a0 = 0 then (if a1 = 0 then ((alive.f).bind fun t148 => (some t148)) else (none)) else (none)) else ((alive.f).bind fun t149 => (some t149))) else (none))) else (none))))) else (none))) else (none)) = some r := H
  have A5 := Aside0.mk A50
  clear A50
  by_cases c6 : t136 = t137
  · rw [if_pos c6] at H
    have c6b0 : (t136 == t137) = true := beq_iff_eq.mpr c6
    have c6b1 : (t136 != t137) = false := bne_eq_false_iff_eq.mpr c6
    clear c6
    by_cases c7 : t136 = a0
    · rw [if_pos c7] at H
      have c7b0 : (t136 == a0) = true := beq_iff_eq.mpr c7
      have c7b1 : (t136 != a0) = false := bne_eq_false_iff_eq.mpr c7
      clear c7
      replace H := Option.bind_eq_some_iff.mp H
      obtain ⟨t138, A80, H⟩ := H
      replace H : ((fault_Worse.f k a1 a2).bind fun t139 => ((fault_Worse.f k a0 t139).bind fun t140 => (if t138 = t140 then ((fault_Worse.f k a0 0).bind fun t141 => (if t141 = a0 then (if t136 = 0 then (if a0 = 0 then (if a1 = 0 then ((alive.f).bind fun t142 => (some t142)) else (none)) else (none)) else ((alive.f).bind fun t143 => (some t143))) else (none))) else (none)))) = some r := H
      have A8 := Aside0.mk A80
      clear A80
      replace H := Option.bind_eq_some_iff.mp H
      obtain ⟨t139, A90, H⟩ := H
      replace H : ((fault_Worse.f k a0 t139).bind fun t140 => (if t138 = t140 then ((fault_Worse.f k a0 0).bind fun t141 => (if t141 = a0 then (if t136 = 0 then (if a0 = 0 then (if a1 = 0 then ((alive.f).bind fun t142 => (some t142)) else (none)) else (none)) else ((alive.f).bind fun t143 => (some t143))) else (none))) else (none))) = some r := H
      have A9 := Aside0.mk A90
      clear A90
      replace H := Option.bind_eq_some_iff.mp H
      obtain ⟨t140, A100, H⟩ := H
      replace H : (if t138 = t140 then ((fault_Worse.f k a0 0).bind fun t141 => (if t141 = a0 then (if t136 = 0 then (if a0 = 0 then (if a1 = 0 then ((alive.f).bind fun t142 => (some t142)) else (none)) else (none)) else ((alive.f).bind fun t143 => (some t143))) else (none))) else (none)) = some r := H
      have A10 := Aside0.mk A100
      clear A100
      by_cases c11 : t138 = t140
      · rw [if_pos c11] at H
        have c11b0 : (t138 == t140) = true := beq_iff_eq.mpr c11
        have c11b1 : (t138 != t140) = false := bne_eq_false_iff_eq.mpr c11
        clear c11
        replace H := Option.bind_eq_some_iff.mp H
        obtain ⟨t141, A120, H⟩ := H
        replace H : (if t141 = a0 then (if t136 = 0 then (if a0 = 0 then (if a1 = 0 then ((alive.f).bind fun t142 => (some t142)) else (none)) else (none)) else ((alive.f).bind fun t143 => (some t143))) else (none)) = some r := H
        have A12 := Aside0.mk A120
        clear A120
        by_cases c13 : t141 = a0
        · rw [if_pos c13] at H
          have c13b0 : (t141 == a0) = true := beq_iff_eq.mpr c13
          have c13b1 : (t141 != a0) = false := bne_eq_false_iff_eq.mpr c13
          clear c13
          by_cases c14 : t136 = 0
          · rw [if_pos c14] at H
            have c14b0 : (t136 == 0) = true := beq_iff_eq.mpr c14
            have c14b1 : (t136 != 0) = false := bne_eq_false_iff_eq.mpr c14
            clear c14
            by_cases c15 : a0 = 0
            · rw [if_pos c15] at H
              have c15b0 : (a0 == 0) = true := beq_iff_eq.mpr c15
              have c15b1 : (a0 != 0) = false := bne_eq_false_iff_eq.mpr c15
              clear c15
              by_cases c16 : a1 = 0
              · rw [if_pos c16] at H
                have c16b0 : (a1 == 0) = true := beq_iff_eq.mpr c16
                have c16b1 : (a1 != 0) = false := bne_eq_false_iff_eq.mpr c16
                clear c16
                replace H := Option.bind_eq_some_iff.mp H
                obtain ⟨t142, A170, H⟩ := H
                replace H : (some t142) = some r := H
                have A17 := Aside0.mk A170
                clear A170
                obtain rfl := Option.some.inj H
                go_enter Tryd.func7, Tryd.ntmps7
                go_wp2_with (first | ((with_reducible refine gate_callee (f := 27) rfl ?_); refine goesL_ (some 10) rfl rfl Tryd.func27 (by kernel_rfl) rfl #[.int .i64 a0, .int .i64 a1] rfl (by (try simp only [List.map_toArray, List.map_cons, List.map_nil]); first | done | rfl | (simp only [List.length_drop, List.length_take]; rfl)) ?_; (with_reducible refine (fault_Worse.calls k a0 a1 t136 _ A4.out).mono ?_); rintro e w18 ⟨rfl, hb⟩; refine ⟨_, rfl, ?_⟩; have n0_ := Aside0.mk (below_step (by repeat (first | (with_reducible first | exact HB.out | apply below_alloc | apply pw_below_drewN | apply below_drew1) | exact HB.out)) hb); clear HB; have HB := n0_; clear n0_; (try clear hb); (try clear hb2); (try clear hk); (try clear hi)) | ((with_reducible refine gate_callee (f := 27) rfl ?_); refine goesL_ (some 14) rfl rfl Tryd.func27 (by kernel_rfl) rfl #[.int .i64 a1, .int .i64 a0] rfl (by (try simp only [List.map_toArray, List.map_cons, List.map_nil]); first | done | rfl | (simp only [List.length_drop, List.length_take]; rfl)) ?_; (with_reducible refine (fault_Worse.calls k a1 a0 t137 _ A5.out).mono ?_); rintro e w19 ⟨rfl, hb⟩; refine ⟨_, rfl, ?_⟩; have n0_ := Aside0.mk (below_step (by repeat (first | (with_reducible first | exact HB.out | apply below_alloc | apply pw_below_drewN | apply below_drew1) | exact HB.out)) hb); clear HB; have HB := n0_; clear n0_; (try clear hb); (try clear hb2); (try clear hk); (try clear hi)) | (go_at_call 27; (with_reducible refine (fault_Worse.calls k t136 a2 t138 _ A8.out).mono ?_); rintro e w20 ⟨rfl, hb⟩; have n0_ := Aside0.mk (below_step (by repeat (first | (with_reducible first | exact HB.out | apply below_alloc | apply pw_below_drewN | apply below_drew1) | exact HB.out)) hb); clear HB; have HB := n0_; clear n0_; (try clear hb); (try clear hb2); (try clear hk); (try clear hi)) | (go_at_call 27; (with_reducible refine (fault_Worse.calls k a1 a2 t139 _ A9.out).mono ?_); rintro e w21 ⟨rfl, hb⟩; have n0_ := Aside0.mk (below_step (by repeat (first | (with_reducible first | exact HB.out | apply below_alloc | apply pw_below_drewN | apply below_drew1) | exact HB.out)) hb); clear HB; have HB := n0_; clear n0_; (try clear hb); (try clear hb2); (try clear hk); (try clear hi)) | (go_at_call 27; (with_reducible refine (fault_Worse.calls k a0 t139 t140 _ A10.out).mono ?_); rintro e w22 ⟨rfl, hb⟩; have n0_ := Aside0.mk (below_step (by repeat (first | (with_reducible first | exact HB.out | apply below_alloc | apply pw_below_drewN | apply below_drew1) | exact HB.out)) hb); clear HB; have HB := n0_; clear n0_; (try clear hb); (try clear hb2); (try clear hk); (try clear hi)) | (go_at_call 27; (with_reducible refine (fault_Worse.calls k a0 0 t141 _ A12.out).mono ?_); rintro e w23 ⟨rfl, hb⟩; have n0_ := Aside0.mk (below_step (by repeat (first | (with_reducible first | exact HB.out | apply below_alloc | apply pw_below_drewN | apply below_drew1) | exact HB.out)) hb); clear HB; have HB := n0_; clear n0_; (try clear hb); (try clear hb2); (try clear hk); (try clear hi)) | (go_at_call 16; (with_reducible refine (alive.calls  t142 _ (HW.out.on (by repeat (first | (with_reducible first | exact HB.out | apply below_alloc | apply pw_below_drewN | apply below_drew1) | exact HB.out))) A17.out).mono ?_); rintro e w24 ⟨rfl, hb⟩; have n0_ := Aside0.mk (below_step (by repeat (first | (with_reducible first | exact HB.out | apply below_alloc | apply pw_below_drewN | apply below_drew1) | exact HB.out)) hb); clear HB; have HB := n0_; clear n0_; (try clear hb); (try clear hb2); (try clear hk); (try clear hi)))
                go_ret
                exact ⟨by first | rfl | exact isEmpty_bne_ _ | (simp [errW_none, errW_some] <;> rfl) | (simp [*, errW_none, errW_some] <;> rfl), by repeat (first | (with_reducible first | exact HB.out | apply below_alloc | apply pw_below_drewN | apply below_drew1) | exact HB.out)⟩
              · rw [if_neg c16] at H
                exact absurd H (by simp)
            · rw [if_neg c15] at H
              exact absurd H (by simp)
          · rw [if_neg c14] at H
            have c14b0 : (t136 == 0) = false := beq_eq_false_iff_ne.mpr c14
            have c14b1 : (t136 != 0) = true := bne_iff_ne.mpr c14
            replace H := Option.bind_eq_some_iff.mp H
            obtain ⟨t143, A250, H⟩ := H
            replace H : (some t143) = some r := H
            have A25 := Aside0.mk A250
            clear A250
            obtain rfl := Option.some.inj H
            go_enter Tryd.func7, Tryd.ntmps7
            go_wp2_with (first | ((with_reducible refine gate_callee (f := 27) rfl ?_); refine goesL_ (some 10) rfl rfl Tryd.func27 (by kernel_rfl) rfl #[.int .i64 a0, .int .i64 a1] rfl (by (try simp only [List.map_toArray, List.map_cons, List.map_nil]); first | done | rfl | (simp only [List.length_drop, List.length_take]; rfl)) ?_; (with_reducible refine (fault_Worse.calls k a0 a1 t136 _ A4.out).mono ?_); rintro e w26 ⟨rfl, hb⟩; refine ⟨_, rfl, ?_⟩; have n0_ := Aside0.mk (below_step (by repeat (first | (with_reducible first | exact HB.out | apply below_alloc | apply pw_below_drewN | apply below_drew1) | exact HB.out)) hb); clear HB; have HB := n0_; clear n0_; (try clear hb); (try clear hb2); (try clear hk); (try clear hi)) | ((with_reducible refine gate_callee (f := 27) rfl ?_); refine goesL_ (some 14) rfl rfl Tryd.func27 (by kernel_rfl) rfl #[.int .i64 a1, .int .i64 a0] rfl (by (try simp only [List.map_toArray, List.map_cons, List.map_nil]); first | done | rfl | (simp only [List.length_drop, List.length_take]; rfl)) ?_; (with_reducible refine (fault_Worse.calls k a1 a0 t137 _ A5.out).mono ?_); rintro e w27 ⟨rfl, hb⟩; refine ⟨_, rfl, ?_⟩; have n0_ := Aside0.mk (below_step (by repeat (first | (with_reducible first | exact HB.out | apply below_alloc | apply pw_below_drewN | apply below_drew1) | exact HB.out)) hb); clear HB; have HB := n0_; clear n0_; (try clear hb); (try clear hb2); (try clear hk); (try clear hi)) | (go_at_call 27; (with_reducible refine (fault_Worse.calls k t136 a2 t138 _ A8.out).mono ?_); rintro e w28 ⟨rfl, hb⟩; have n0_ := Aside0.mk (below_step (by repeat (first | (with_reducible first | exact HB.out | apply below_alloc | apply pw_below_drewN | apply below_drew1) | exact HB.out)) hb); clear HB; have HB := n0_; clear n0_; (try clear hb); (try clear hb2); (try clear hk); (try clear hi)) | (go_at_call 27; (with_reducible refine (fault_Worse.calls k a1 a2 t139 _ A9.out).mono ?_); rintro e w29 ⟨rfl, hb⟩; have n0_ := Aside0.mk (below_step (by repeat (first | (with_reducible first | exact HB.out | apply below_alloc | apply pw_below_drewN | apply below_drew1) | exact HB.out)) hb); clear HB; have HB := n0_; clear n0_; (try clear hb); (try clear hb2); (try clear hk); (try clear hi)) | (go_at_call 27; (with_reducible refine (fault_Worse.calls k a0 t139 t140 _ A10.out).mono ?_); rintro e w30 ⟨rfl, hb⟩; have n0_ := Aside0.mk (below_step (by repeat (first | (with_reducible first | exact HB.out | apply below_alloc | apply pw_below_drewN | apply below_drew1) | exact HB.out)) hb); clear HB; have HB := n0_; clear n0_; (try clear hb); (try clear hb2); (try clear hk); (try clear hi)) | (go_at_call 27; (with_reducible refine (fault_Worse.calls k a0 0 t141 _ A12.out).mono ?_); rintro e w31 ⟨rfl, hb⟩; have n0_ := Aside0.mk (below_step (by repeat (first | (with_reducible first | exact HB.out | apply below_alloc | apply pw_below_drewN | apply below_drew1) | exact HB.out)) hb); clear HB; have HB := n0_; clear n0_; (try clear hb); (try clear hb2); (try clear hk); (try clear hi)) | (go_at_call 16; (with_reducible refine (alive.calls  t143 _ (HW.out.on (by repeat (first | (with_reducible first | exact HB.out | apply below_alloc | apply pw_below_drewN | apply below_drew1) | exact HB.out))) A25.out).mono ?_); rintro e w32 ⟨rfl, hb⟩; have n0_ := Aside0.mk (below_step (by repeat (first | (with_reducible first | exact HB.out | apply below_alloc | apply pw_below_drewN | apply below_drew1) | exact HB.out)) hb); clear HB; have HB := n0_; clear n0_; (try clear hb); (try clear hb2); (try clear hk); (try clear hi)))
            go_ret
            exact ⟨by first | rfl | exact isEmpty_bne_ _ | (simp [errW_none, errW_some] <;> rfl) | (simp [*, errW_none, errW_some] <;> rfl), by repeat (first | (with_reducible first | exact HB.out | apply below_alloc | apply pw_below_drewN | apply below_drew1) | exact HB.out)⟩
        · rw [if_neg c13] at H
          exact absurd H (by simp)
      · rw [if_neg c11] at H
        exact absurd H (by simp)
    · rw [if_neg c7] at H
      have c7b0 : (t136 == a0) = false := beq_eq_false_iff_ne.mpr c7
      have c7b1 : (t136 != a0) = true := bne_iff_ne.mpr c7
      by_cases c33 : t136 = a1
      · rw [if_pos c33] at H
        have c33b0 : (t136 == a1) = true := beq_iff_eq.mpr c33
        have c33b1 : (t136 != a1) = false := bne_eq_false_iff_eq.mpr c33
        clear c33
        replace H := Option.bind_eq_some_iff.mp H
        obtain ⟨t144, A340, H⟩ := H
        replace H : ((fault_Worse.f k a1 a2).bind fun t145 => ((fault_Worse.f k a0 t145).bind fun t146 => (if t144 = t146 then ((fault_Worse.f k a0 0).bind fun t147 => (if t147 = a0 then (if t136 = 0 then (if a0 = 0 then (if a1 = 0 then ((alive.f).bind fun t148 => (some t148)) else (none)) else (none)) else ((alive.f).bind fun t149 => (some t149))) else (none))) else (none)))) = some r := H
        have A34 := Aside0.mk A340
        clear A340
        replace H := Option.bind_eq_some_iff.mp H
        obtain ⟨t145, A350, H⟩ := H
        replace H : ((fault_Worse.f k a0 t145).bind fun t146 => (if t144 = t146 then ((fault_Worse.f k a0 0).bind fun t147 => (if t147 = a0 then (if t136 = 0 then (if a0 = 0 then (if a1 = 0 then ((alive.f).bind fun t148 => (some t148)) else (none)) else (none)) else ((alive.f).bind fun t149 => (some t149))) else (none))) else (none))) = some r := H
        have A35 := Aside0.mk A350
        clear A350
        replace H := Option.bind_eq_some_iff.mp H
        obtain ⟨t146, A360, H⟩ := H
        replace H : (if t144 = t146 then ((fault_Worse.f k a0 0).bind fun t147 => (if t147 = a0 then (if t136 = 0 then (if a0 = 0 then (if a1 = 0 then ((alive.f).bind fun t148 => (some t148)) else (none)) else (none)) else ((alive.f).bind fun t149 => (some t149))) else (none))) else (none)) = some r := H
        have A36 := Aside0.mk A360
        clear A360
        by_cases c37 : t144 = t146
        · rw [if_pos c37] at H
          have c37b0 : (t144 == t146) = true := beq_iff_eq.mpr c37
          have c37b1 : (t144 != t146) = false := bne_eq_false_iff_eq.mpr c37
          clear c37
          replace H := Option.bind_eq_some_iff.mp H
          obtain ⟨t147, A380, H⟩ := H
          replace H : (if t147 = a0 then (if t136 = 0 then (if a0 = 0 then (if a1 = 0 then ((alive.f).bind fun t148 => (some t148)) else (none)) else (none)) else ((alive.f).bind fun t149 => (some t149))) else (none)) = some r := H
          have A38 := Aside0.mk A380
          clear A380
          by_cases c39 : t147 = a0
          · rw [if_pos c39] at H
            have c39b0 : (t147 == a0) = true := beq_iff_eq.mpr c39
            have c39b1 : (t147 != a0) = false := bne_eq_false_iff_eq.mpr c39
            clear c39
            by_cases c40 : t136 = 0
            · rw [if_pos c40] at H
              have c40b0 : (t136 == 0) = true := beq_iff_eq.mpr c40
              have c40b1 : (t136 != 0) = false := bne_eq_false_iff_eq.mpr c40
              clear c40
              by_cases c41 : a0 = 0
              · rw [if_pos c41] at H
                have c41b0 : (a0 == 0) = true := beq_iff_eq.mpr c41
                have c41b1 : (a0 != 0) = false := bne_eq_false_iff_eq.mpr c41
                clear c41
                by_cases c42 : a1 = 0
                · rw [if_pos c42] at H
                  have c42b0 : (a1 == 0) = true := beq_iff_eq.mpr c42
                  have c42b1 : (a1 != 0) = false := bne_eq_false_iff_eq.mpr c42
                  clear c42
                  replace H := Option.bind_eq_some_iff.mp H
                  obtain ⟨t148, A430, H⟩ := H
                  replace H : (some t148) = some r := H
                  have A43 := Aside0.mk A430
                  clear A430
                  obtain rfl := Option.some.inj H
                  go_enter Tryd.func7, Tryd.ntmps7
                  go_wp2_with (first | ((with_reducible refine gate_callee (f := 27) rfl ?_); refine goesL_ (some 10) rfl rfl Tryd.func27 (by kernel_rfl) rfl #[.int .i64 a0, .int .i64 a1] rfl (by (try simp only [List.map_toArray, List.map_cons, List.map_nil]); first | done | rfl | (simp only [List.length_drop, List.length_take]; rfl)) ?_; (with_reducible refine (fault_Worse.calls k a0 a1 t136 _ A4.out).mono ?_); rintro e w44 ⟨rfl, hb⟩; refine ⟨_, rfl, ?_⟩; have n0_ := Aside0.mk (below_step (by repeat (first | (with_reducible first | exact HB.out | apply below_alloc | apply pw_below_drewN | apply below_drew1) | exact HB.out)) hb); clear HB; have HB := n0_; clear n0_; (try clear hb); (try clear hb2); (try clear hk); (try clear hi)) | ((with_reducible refine gate_callee (f := 27) rfl ?_); refine goesL_ (some 14) rfl rfl Tryd.func27 (by kernel_rfl) rfl #[.int .i64 a1, .int .i64 a0] rfl (by (try simp only [List.map_toArray, List.map_cons, List.map_nil]); first | done | rfl | (simp only [List.length_drop, List.length_take]; rfl)) ?_; (with_reducible refine (fault_Worse.calls k a1 a0 t137 _ A5.out).mono ?_); rintro e w45 ⟨rfl, hb⟩; refine ⟨_, rfl, ?_⟩; have n0_ := Aside0.mk (below_step (by repeat (first | (with_reducible first | exact HB.out | apply below_alloc | apply pw_below_drewN | apply below_drew1) | exact HB.out)) hb); clear HB; have HB := n0_; clear n0_; (try clear hb); (try clear hb2); (try clear hk); (try clear hi)) | (go_at_call 27; (with_reducible refine (fault_Worse.calls k t136 a2 t144 _ A34.out).mono ?_); rintro e w46 ⟨rfl, hb⟩; have n0_ := Aside0.mk (below_step (by repeat (first | (with_reducible first | exact HB.out | apply below_alloc | apply pw_below_drewN | apply below_drew1) | exact HB.out)) hb); clear HB; have HB := n0_; clear n0_; (try clear hb); (try clear hb2); (try clear hk); (try clear hi)) | (go_at_call 27; (with_reducible refine (fault_Worse.calls k a1 a2 t145 _ A35.out).mono ?_); rintro e w47 ⟨rfl, hb⟩; have n0_ := Aside0.mk (below_step (by repeat (first | (with_reducible first | exact HB.out | apply below_alloc | apply pw_below_drewN | apply below_drew1) | exact HB.out)) hb); clear HB; have HB := n0_; clear n0_; (try clear hb); (try clear hb2); (try clear hk); (try clear hi)) | (go_at_call 27; (with_reducible refine (fault_Worse.calls k a0 t145 t146 _ A36.out).mono ?_); rintro e w48 ⟨rfl, hb⟩; have n0_ := Aside0.mk (below_step (by repeat (first | (with_reducible first | exact HB.out | apply below_alloc | apply pw_below_drewN | apply below_drew1) | exact HB.out)) hb); clear HB; have HB := n0_; clear n0_; (try clear hb); (try clear hb2); (try clear hk); (try clear hi)) | (go_at_call 27; (with_reducible refine (fault_Worse.calls k a0 0 t147 _ A38.out).mono ?_); rintro e w49 ⟨rfl, hb⟩; have n0_ := Aside0.mk (below_step (by repeat (first | (with_reducible first | exact HB.out | apply below_alloc | apply pw_below_drewN | apply below_drew1) | exact HB.out)) hb); clear HB; have HB := n0_; clear n0_; (try clear hb); (try clear hb2); (try clear hk); (try clear hi)) | (go_at_call 16; (with_reducible refine (alive.calls  t148 _ (HW.out.on (by repeat (first | (with_reducible first | exact HB.out | apply below_alloc | apply pw_below_drewN | apply below_drew1) | exact HB.out))) A43.out).mono ?_); rintro e w50 ⟨rfl, hb⟩; have n0_ := Aside0.mk (below_step (by repeat (first | (with_reducible first | exact HB.out | apply below_alloc | apply pw_below_drewN | apply below_drew1) | exact HB.out)) hb); clear HB; have HB := n0_; clear n0_; (try clear hb); (try clear hb2); (try clear hk); (try clear hi)))
                  go_ret
                  exact ⟨by first | rfl | exact isEmpty_bne_ _ | (simp [errW_none, errW_some] <;> rfl) | (simp [*, errW_none, errW_some] <;> rfl), by repeat (first | (with_reducible first | exact HB.out | apply below_alloc | apply pw_below_drewN | apply below_drew1) | exact HB.out)⟩
                · rw [if_neg c42] at H
                  exact absurd H (by simp)
              · rw [if_neg c41] at H
                exact absurd H (by simp)
            · rw [if_neg c40] at H
              have c40b0 : (t136 == 0) = false := beq_eq_false_iff_ne.mpr c40
              have c40b1 : (t136 != 0) = true := bne_iff_ne.mpr c40
              replace H := Option.bind_eq_some_iff.mp H
              obtain ⟨t149, A510, H⟩ := H
              replace H : (some t149) = some r := H
              have A51 := Aside0.mk A510
              clear A510
              obtain rfl := Option.some.inj H
              go_enter Tryd.func7, Tryd.ntmps7
              go_wp2_with (first | ((with_reducible refine gate_callee (f := 27) rfl ?_); refine goesL_ (some 10) rfl rfl Tryd.func27 (by kernel_rfl) rfl #[.int .i64 a0, .int .i64 a1] rfl (by (try simp only [List.map_toArray, List.map_cons, List.map_nil]); first | done | rfl | (simp only [List.length_drop, List.length_take]; rfl)) ?_; (with_reducible refine (fault_Worse.calls k a0 a1 t136 _ A4.out).mono ?_); rintro e w52 ⟨rfl, hb⟩; refine ⟨_, rfl, ?_⟩; have n0_ := Aside0.mk (below_step (by repeat (first | (with_reducible first | exact HB.out | apply below_alloc | apply pw_below_drewN | apply below_drew1) | exact HB.out)) hb); clear HB; have HB := n0_; clear n0_; (try clear hb); (try clear hb2); (try clear hk); (try clear hi)) | ((with_reducible refine gate_callee (f := 27) rfl ?_); refine goesL_ (some 14) rfl rfl Tryd.func27 (by kernel_rfl) rfl #[.int .i64 a1, .int .i64 a0] rfl (by (try simp only [List.map_toArray, List.map_cons, List.map_nil]); first | done | rfl | (simp only [List.length_drop, List.length_take]; rfl)) ?_; (with_reducible refine (fault_Worse.calls k a1 a0 t137 _ A5.out).mono ?_); rintro e w53 ⟨rfl, hb⟩; refine ⟨_, rfl, ?_⟩; have n0_ := Aside0.mk (below_step (by repeat (first | (with_reducible first | exact HB.out | apply below_alloc | apply pw_below_drewN | apply below_drew1) | exact HB.out)) hb); clear HB; have HB := n0_; clear n0_; (try clear hb); (try clear hb2); (try clear hk); (try clear hi)) | (go_at_call 27; (with_reducible refine (fault_Worse.calls k t136 a2 t144 _ A34.out).mono ?_); rintro e w54 ⟨rfl, hb⟩; have n0_ := Aside0.mk (below_step (by repeat (first | (with_reducible first | exact HB.out | apply below_alloc | apply pw_below_drewN | apply below_drew1) | exact HB.out)) hb); clear HB; have HB := n0_; clear n0_; (try clear hb); (try clear hb2); (try clear hk); (try clear hi)) | (go_at_call 27; (with_reducible refine (fault_Worse.calls k a1 a2 t145 _ A35.out).mono ?_); rintro e w55 ⟨rfl, hb⟩; have n0_ := Aside0.mk (below_step (by repeat (first | (with_reducible first | exact HB.out | apply below_alloc | apply pw_below_drewN | apply below_drew1) | exact HB.out)) hb); clear HB; have HB := n0_; clear n0_; (try clear hb); (try clear hb2); (try clear hk); (try clear hi)) | (go_at_call 27; (with_reducible refine (fault_Worse.calls k a0 t145 t146 _ A36.out).mono ?_); rintro e w56 ⟨rfl, hb⟩; have n0_ := Aside0.mk (below_step (by repeat (first | (with_reducible first | exact HB.out | apply below_alloc | apply pw_below_drewN | apply below_drew1) | exact HB.out)) hb); clear HB; have HB := n0_; clear n0_; (try clear hb); (try clear hb2); (try clear hk); (try clear hi)) | (go_at_call 27; (with_reducible refine (fault_Worse.calls k a0 0 t147 _ A38.out).mono ?_); rintro e w57 ⟨rfl, hb⟩; have n0_ := Aside0.mk (below_step (by repeat (first | (with_reducible first | exact HB.out | apply below_alloc | apply pw_below_drewN | apply below_drew1) | exact HB.out)) hb); clear HB; have HB := n0_; clear n0_; (try clear hb); (try clear hb2); (try clear hk); (try clear hi)) | (go_at_call 16; (with_reducible refine (alive.calls  t149 _ (HW.out.on (by repeat (first | (with_reducible first | exact HB.out | apply below_alloc | apply pw_below_drewN | apply below_drew1) | exact HB.out))) A51.out).mono ?_); rintro e w58 ⟨rfl, hb⟩; have n0_ := Aside0.mk (below_step (by repeat (first | (with_reducible first | exact HB.out | apply below_alloc | apply pw_below_drewN | apply below_drew1) | exact HB.out)) hb); clear HB; have HB := n0_; clear n0_; (try clear hb); (try clear hb2); (try clear hk); (try clear hi)))
              go_ret
              exact ⟨by first | rfl | exact isEmpty_bne_ _ | (simp [errW_none, errW_some] <;> rfl) | (simp [*, errW_none, errW_some] <;> rfl), by repeat (first | (with_reducible first | exact HB.out | apply below_alloc | apply pw_below_drewN | apply below_drew1) | exact HB.out)⟩
          · rw [if_neg c39] at H
            exact absurd H (by simp)
        · rw [if_neg c37] at H
          exact absurd H (by simp)
      · rw [if_neg c33] at H
        exact absurd H (by simp)
  · rw [if_neg c6] at H
    exact absurd H (by simp)

/-! ### pumicelaw04_FaultFirsts: function 9 -/
def pumicelaw04_FaultFirsts.f (k : Nat) (a0 : Int) (a1 : Int) (l2 : List Int) : Option (Bool) := (fault_First.f k l2).bind fun bt150 => ((pumiceref04_First.f k l2).bind fun bt152 => ((fault_Worse.f k a0 a1).bind fun t154 => ((pumiceref04_Worse.f k a0 a1).bind fun t155 => (if t154 = t155 then (if bt150.1 = bt152.1 then (if bt150.2 = bt152.2 then ((alive.f).bind fun t156 => (some t156)) else (none)) else (none)) else (none)))))
theorem pumicelaw04_FaultFirsts.mono : ∀ a0 a1 a2 k, LeO (pumicelaw04_FaultFirsts.f k a0 a1 a2) (pumicelaw04_FaultFirsts.f (k + 1) a0 a1 a2) := by
  intro a0 a1 a2 k
  unfold pumicelaw04_FaultFirsts.f
  repeat' first
      | (with_reducible exact fault_First.mono _ _)
      | (with_reducible exact fault_Worse.mono _ _ _)
      | (with_reducible exact pumiceref04_First.mono _ _)
      | (with_reducible exact pumiceref04_Worse.mono _ _ _)
      | (with_reducible exact LeO.refl _)
      | (with_reducible exact LeO.none _)
      | (with_reducible refine LeO.ite ?_ ?_)
      | (with_reducible refine LeO.bind ?_ (fun _ => ?_))
      | exact fault_First.mono _ _
      | exact fault_Worse.mono _ _ _
      | exact pumiceref04_First.mono _ _
      | exact pumiceref04_Worse.mono _ _ _
      | exact LeO.none _
      | refine LeO.ite ?_ ?_
      | refine LeO.bind ?_ (fun _ => ?_)
set_option maxHeartbeats 8000000 in
set_option maxRecDepth 100000 in
theorem pumicelaw04_FaultFirsts.calls (k : Nat) (a0 : Int) (a1 : Int) (A2 : Option Addr) (c2 : Nat) (l2 : List Int) (r : Bool) (w : World) (HW0 : As.Laid w) (hr2 : Kd.C (Kd.int .i64) w A2 l2.length l2) (hc2 : l2.length ≤ c2) (h : pumicelaw04_FaultFirsts.f k a0 a1 l2 = some r) :
    Calls Tryd.prog 9 #[.int .i64 a0, .int .i64 a1, .slice A2 l2.length c2] w fun e w' => e = .returned (.bool r) ∧ Below w.heap.size w w' := by
  have HR2 := Aside0.mk hr2
  have HC2 := Aside0.mk hc2
  clear hr2 hc2
  have HB := Aside0.mk (Below.refl w.heap.size w)
  have HW := Aside0.mk HW0
  clear HW0
  have H : ((fault_First.f k l2).bind fun bt150 => ((pumiceref04_First.f k l2).bind fun bt152 => ((fault_Worse.f k a0 a1).bind fun t154 => ((pumiceref04_Worse.f k a0 a1).bind fun t155 => (if t154 = t155 then (if bt150.1 = bt152.1 then (if bt150.2 = bt152.2 then ((alive.f).bind fun t156 => (some t156)) else (none)) else (none)) else (none)))))) = some r := h
  clear h
  replace H := Option.bind_eq_some_iff.mp H
  obtain ⟨⟨t150, t151⟩, A40, H⟩ := H
  replace H : ((pumiceref04_First.f k l2).bind fun bt152 => ((fault_Worse.f k a0 a1).bind fun t154 => ((pumiceref04_Worse.f k a0 a1).bind fun t155 => (if t154 = t155 then (if t150 = bt152.1 then (if t151 = bt152.2 then ((alive.f).bind fun t156 => (some t156)) else (none)) else (none)) else (none))))) = some r := H
  have A4 := Aside0.mk A40
  clear A40
  replace H := Option.bind_eq_some_iff.mp H
  obtain ⟨⟨t152, t153⟩, A50, H⟩ := H
  replace H : ((fault_Worse.f k a0 a1).bind fun t154 => ((pumiceref04_Worse.f k a0 a1).bind fun t155 => (if t154 = t155 then (if t150 = t152 then (if t151 = t153 then ((alive.f).bind fun t156 => (some t156)) else (none)) else (none)) else (none)))) = some r := H
  have A5 := Aside0.mk A50
  clear A50
  replace H := Option.bind_eq_some_iff.mp H
  obtain ⟨t154, A60, H⟩ := H
  replace H : ((pumiceref04_Worse.f k a0 a1).bind fun t155 => (if t154 = t155 then (if t150 = t152 then (if t151 = t153 then ((alive.f).bind fun t156 => (some t156)) else (none)) else (none)) else (none))) = some r := H
  have A6 := Aside0.mk A60
  clear A60
  replace H := Option.bind_eq_some_iff.mp H
  obtain ⟨t155, A70, H⟩ := H
  replace H : (if t154 = t155 then (if t150 = t152 then (if t151 = t153 then ((alive.f).bind fun t156 => (some t156)) else (none)) else (none)) else (none)) = some r := H
  have A7 := Aside0.mk A70
  clear A70
  by_cases c8 : t154 = t155
  · rw [if_pos c8] at H
    have c8b0 : (t154 == t155) = true := beq_iff_eq.mpr c8
    have c8b1 : (t154 != t155) = false := bne_eq_false_iff_eq.mpr c8
    clear c8
    by_cases c9 : t150 = t152
    · rw [if_pos c9] at H
      have c9b0 : (t150 == t152) = true := beq_iff_eq.mpr c9
      have c9b1 : (t150 != t152) = false := bne_eq_false_iff_eq.mpr c9
      clear c9
      by_cases c10 : t151 = t153
      · rw [if_pos c10] at H
        have c10b0 : (t151 == t153) = true := beq_iff_eq.mpr c10
        have c10b1 : (t151 != t153) = false := bne_eq_false_iff_eq.mpr c10
        clear c10
        replace H := Option.bind_eq_some_iff.mp H
        obtain ⟨t156, A110, H⟩ := H
        replace H : (some t156) = some r := H
        have A11 := Aside0.mk A110
        clear A110
        obtain rfl := Option.some.inj H
        go_enter Tryd.func9, Tryd.ntmps9
        go_wp2_with (first | ((with_reducible refine gate_callee (f := 29) rfl ?_); refine goesL_ (some 13) rfl rfl Tryd.func29 (by kernel_rfl) rfl #[.slice A2 l2.length c2] rfl (by (try simp only [List.map_toArray, List.map_cons, List.map_nil]); first | done | rfl | (simp only [List.length_drop, List.length_take]; rfl)) ?_; (with_reducible refine (fault_First.calls k _ _ l2 t150 t151 _ ?side1 ?side2 A4.out).mono ?_); (case side1 => repeat (first | exact HR2.out | (with_reducible refine Kd.C_alloc ?_ _) | (with_reducible refine Kd.C_drewN ?_ _) | (with_reducible refine Kd.C_drew ?_))); (case side2 => exact HC2.out); rintro e w' ⟨rfl, ⟨nd, rfl⟩⟩; refine ⟨_, rfl, ?_⟩) | ((with_reducible refine gate_callee (f := 30) rfl ?_); refine goesL_ (some 18) rfl rfl Tryd.func30 (by kernel_rfl) rfl #[.slice A2 l2.length c2] rfl (by (try simp only [List.map_toArray, List.map_cons, List.map_nil]); first | done | rfl | (simp only [List.length_drop, List.length_take]; rfl)) ?_; (with_reducible refine (pumiceref04_First.calls k _ _ l2 t152 t153 _ ?side1 ?side2 A5.out).mono ?_); (case side1 => repeat (first | exact HR2.out | (with_reducible refine Kd.C_alloc ?_ _) | (with_reducible refine Kd.C_drewN ?_ _) | (with_reducible refine Kd.C_drew ?_))); (case side2 => exact HC2.out); rintro e w' ⟨rfl, ⟨nd, rfl⟩⟩; refine ⟨_, rfl, ?_⟩) | ((with_reducible refine gate_callee (f := 27) rfl ?_); refine goesL_ (some 23) rfl rfl Tryd.func27 (by kernel_rfl) rfl #[.int .i64 a0, .int .i64 a1] rfl (by (try simp only [List.map_toArray, List.map_cons, List.map_nil]); first | done | rfl | (simp only [List.length_drop, List.length_take]; rfl)) ?_; (with_reducible refine (fault_Worse.calls k a0 a1 t154 _ A6.out).mono ?_); rintro e w12 ⟨rfl, hb⟩; refine ⟨_, rfl, ?_⟩; have n0_ := Aside0.mk (below_step (by repeat (first | (with_reducible first | exact HB.out | apply below_alloc | apply pw_below_drewN | apply below_drew1) | exact HB.out)) hb); clear HB; have HB := n0_; clear n0_; (try clear hb); (try clear hb2); (try clear hk); (try clear hi)) | ((with_reducible refine gate_callee (f := 31) rfl ?_); refine goesL_ (some 26) rfl rfl Tryd.func31 (by kernel_rfl) rfl #[.int .i64 a0, .int .i64 a1] rfl (by (try simp only [List.map_toArray, List.map_cons, List.map_nil]); first | done | rfl | (simp only [List.length_drop, List.length_take]; rfl)) ?_; (with_reducible refine (pumiceref04_Worse.calls k a0 a1 t155 _ A7.out).mono ?_); rintro e w' ⟨rfl, ⟨nd, rfl⟩⟩; refine ⟨_, rfl, ?_⟩) | (go_at_call 16; (with_reducible refine (alive.calls  t156 _ (HW.out.on (by repeat (first | (with_reducible first | exact HB.out | apply below_alloc | apply pw_below_drewN | apply below_drew1) | exact HB.out))) A11.out).mono ?_); rintro e w13 ⟨rfl, hb⟩; have n0_ := Aside0.mk (below_step (by repeat (first | (with_reducible first | exact HB.out | apply below_alloc | apply pw_below_drewN | apply below_drew1) | exact HB.out)) hb); clear HB; have HB := n0_; clear n0_; (try clear hb); (try clear hb2); (try clear hk); (try clear hi)))
        go_ret
        exact ⟨by first | rfl | exact isEmpty_bne_ _ | (simp [errW_none, errW_some] <;> rfl) | (simp [*, errW_none, errW_some] <;> rfl), by repeat (first | (with_reducible first | exact HB.out | apply below_alloc | apply pw_below_drewN | apply below_drew1) | exact HB.out)⟩
      · rw [if_neg c10] at H
        exact absurd H (by simp)
    · rw [if_neg c9] at H
      exact absurd H (by simp)
  · rw [if_neg c8] at H
    exact absurd H (by simp)

/-! ### pumicelaw04_FaultFound: function 4 -/
def pumicelaw04_FaultFound.j0 : Nat → Int → Bool → Bool → Option (Bool)
  | 0, _, _, _ => none
  | k + 1, x0, x6, x30 => if x30 = true then (none) else ((fault_Class.f k x0).bind fun t164 => (if ((t164 == 0) == (x0 == 0)) = true then (if x6 = true then ((fault_Class.f k x0).bind fun t165 => (if t165 < 6 then ((alive.f).bind fun t166 => (some t166)) else (none))) else ((fault_Class.f k x0).bind fun t167 => (if t167 = 6 then ((alive.f).bind fun t168 => (some t168)) else (none)))) else (none)))
def pumicelaw04_FaultFound.f (k : Nat) (a0 : Int) (a1 : Int) : Option (Bool) := (fault_Name.f k a0).bind fun t157 => ((fault_Find.f k t157).bind fun bt158 => (if bt158.2 = true then (if bt158.1 = a0 then ((fault_Name.f k a0).bind fun t160 => ((fault_Name.f k a1).bind fun t161 => (if t160.toList = t161.toList then (pumicelaw04_FaultFound.j0 k a0 bt158.2 (a0 != a1)) else (pumicelaw04_FaultFound.j0 k a0 bt158.2 false)))) else (pumicelaw04_FaultFound.j0 k a0 bt158.2 true)) else ((fault_Name.f k a0).bind fun t162 => ((fault_Name.f k a1).bind fun t163 => (if t162.toList = t163.toList then (pumicelaw04_FaultFound.j0 k a0 bt158.2 (a0 != a1)) else (pumicelaw04_FaultFound.j0 k a0 bt158.2 false))))))
theorem pumicelaw04_FaultFound.mono_l : ∀ k, (∀ y0 y1 y2, LeO (pumicelaw04_FaultFound.j0 k y0 y1 y2) (pumicelaw04_FaultFound.j0 (k + 1) y0 y1 y2))
  | 0 => fun _ _ _ r h => by simp [pumicelaw04_FaultFound.j0] at h
  | k + 1 => by
    have ih0 := pumicelaw04_FaultFound.mono_l k
    · intro y0 y1 y2
      unfold pumicelaw04_FaultFound.j0
      repeat' first
      | (with_reducible exact ih0 _ _ _)
      | (with_reducible exact fault_Class.mono _ _)
      | (with_reducible exact fault_Find.mono _ _)
      | (with_reducible exact fault_Name.mono _ _)
      | (with_reducible exact LeO.refl _)
      | (with_reducible exact LeO.none _)
      | (with_reducible refine LeO.ite ?_ ?_)
      | (with_reducible refine LeO.bind ?_ (fun _ => ?_))
      | exact ih0 _ _ _
      | exact fault_Class.mono _ _
      | exact fault_Find.mono _ _
      | exact fault_Name.mono _ _
      | exact LeO.none _
      | refine LeO.ite ?_ ?_
      | refine LeO.bind ?_ (fun _ => ?_)
theorem pumicelaw04_FaultFound.mono : ∀ a0 a1 k, LeO (pumicelaw04_FaultFound.f k a0 a1) (pumicelaw04_FaultFound.f (k + 1) a0 a1) := by
  intro a0 a1 k
  have ih0 := pumicelaw04_FaultFound.mono_l k
  unfold pumicelaw04_FaultFound.f
  repeat' first
      | (with_reducible exact ih0 _ _ _)
      | (with_reducible exact fault_Class.mono _ _)
      | (with_reducible exact fault_Find.mono _ _)
      | (with_reducible exact fault_Name.mono _ _)
      | (with_reducible exact LeO.refl _)
      | (with_reducible exact LeO.none _)
      | (with_reducible refine LeO.ite ?_ ?_)
      | (with_reducible refine LeO.bind ?_ (fun _ => ?_))
      | exact ih0 _ _ _
      | exact fault_Class.mono _ _
      | exact fault_Find.mono _ _
      | exact fault_Name.mono _ _
      | exact LeO.none _
      | refine LeO.ite ?_ ?_
      | refine LeO.bind ?_ (fun _ => ?_)
set_option maxHeartbeats 8000000 in
set_option maxRecDepth 100000 in
theorem pumicelaw04_FaultFound.calls (k : Nat) (a0 : Int) (a1 : Int) (r : Bool) (w : World) (HW0 : As.Laid w) (h : pumicelaw04_FaultFound.f k a0 a1 = some r) :
    Calls Tryd.prog 4 #[.int .i64 a0, .int .i64 a1] w fun e w' => e = .returned (.bool r) ∧ Below w.heap.size w w' := by
  have HB := Aside0.mk (Below.refl w.heap.size w)
  have HW := Aside0.mk HW0
  clear HW0
  have H : ((fault_Name.f k a0).bind fun t157 => ((fault_Find.f k t157).bind fun bt158 => (if bt158.2 = true then (if bt158.1 = a0 then ((fault_Name.f k a0).bind fun t160 => ((fault_Name.f k a1).bind fun t161 => (if t160.toList = t161.toList then (pumicelaw04_FaultFound.j0 k a0 bt158.2 (a0 != a1)) else (pumicelaw04_FaultFound.j0 k a0 bt158.2 false)))) else (pumicelaw04_FaultFound.j0 k a0 bt158.2 true)) else ((fault_Name.f k a0).bind fun t162 => ((fault_Name.f k a1).bind fun t163 => (if t162.toList = t163.toList then (pumicelaw04_FaultFound.j0 k a0 bt158.2 (a0 != a1)) else (pumicelaw04_FaultFound.j0 k a0 bt158.2 false))))))) = some r := h
  clear h
  replace H := Option.bind_eq_some_iff.mp H
  obtain ⟨t157, A30, H⟩ := H
  replace H : ((fault_Find.f k t157).bind fun bt158 => (if bt158.2 = true then (if bt158.1 = a0 then ((fault_Name.f k a0).bind fun t160 => ((fault_Name.f k a1).bind fun t161 => (if t160.toList = t161.toList then (pumicelaw04_FaultFound.j0 k a0 bt158.2 (a0 != a1)) else (pumicelaw04_FaultFound.j0 k a0 bt158.2 false)))) else (pumicelaw04_FaultFound.j0 k a0 bt158.2 true)) else ((fault_Name.f k a0).bind fun t162 => ((fault_Name.f k a1).bind fun t163 => (if t162.toList = t163.toList then (pumicelaw04_FaultFound.j0 k a0 bt158.2 (a0 != a1)) else (pumicelaw04_FaultFound.j0 k a0 bt158.2 false)))))) = some r := H
  have A3 := Aside0.mk A30
  clear A30
  replace H := Option.bind_eq_some_iff.mp H
  obtain ⟨⟨t158, t159⟩, A40, H⟩ := H
  replace H : (if t159 = true then (if t158 = a0 then ((fault_Name.f k a0).bind fun t160 => ((fault_Name.f k a1).bind fun t161 => (if t160.toList = t161.toList then (pumicelaw04_FaultFound.j0 k a0 t159 (a0 != a1)) else (pumicelaw04_FaultFound.j0 k a0 t159 false)))) else (pumicelaw04_FaultFound.j0 k a0 t159 true)) else ((fault_Name.f k a0).bind fun t162 => ((fault_Name.f k a1).bind fun t163 => (if t162.toList = t163.toList then (pumicelaw04_FaultFound.j0 k a0 t159 (a0 != a1)) else (pumicelaw04_FaultFound.j0 k a0 t159 false))))) = some r := H
  have A4 := Aside0.mk A40
  clear A40
  have HC5 := Aside0.mk H
  clear H
  go_enter Tryd.func4, Tryd.ntmps4
  go_upto_region 2 with (first | ((with_reducible refine gate_callee (f := 14) rfl ?_); refine goesL_ (some 9) rfl rfl Tryd.func14 (by kernel_rfl) rfl #[.int .i64 a0] rfl (by (try simp only [List.map_toArray, List.map_cons, List.map_nil]); first | done | rfl | (simp only [List.length_drop, List.length_take]; rfl)) ?_; (with_reducible refine (fault_Name.calls k a0 t157 _ (HW.out.on (by repeat (first | (with_reducible first | exact HB.out | apply below_alloc | apply pw_below_drewN | apply below_drew1) | exact HB.out))) A3.out).mono ?_); rintro e w6 ⟨rfl, hb⟩; refine ⟨_, rfl, ?_⟩; have n0_ := Aside0.mk (below_step (by repeat (first | (with_reducible first | exact HB.out | apply below_alloc | apply pw_below_drewN | apply below_drew1) | exact HB.out)) hb); clear HB; have HB := n0_; clear n0_; (try clear hb); (try clear hb2); (try clear hk); (try clear hi)) | ((with_reducible refine gate_callee (f := 10) rfl ?_); refine goesL_ (some 10) rfl rfl Tryd.func10 (by kernel_rfl) rfl #[.string t157] rfl (by (try simp only [List.map_toArray, List.map_cons, List.map_nil]); first | done | rfl | (simp only [List.length_drop, List.length_take]; rfl)) ?_; (with_reducible refine (fault_Find.calls k t157 t158 t159 _ A4.out).mono ?_); rintro e w7 ⟨rfl, hb⟩; refine ⟨_, rfl, ?_⟩; have n0_ := Aside0.mk (below_step (by repeat (first | (with_reducible first | exact HB.out | apply below_alloc | apply pw_below_drewN | apply below_drew1) | exact HB.out)) hb); clear HB; have HB := n0_; clear n0_; (try clear hb); (try clear hb2); (try clear hk); (try clear hi)))
  (try simp only [Act.put, List.setIfInBounds_toArray, List.set_cons_zero, List.set_cons_succ])
  go_cut [30] (fun v30 wc => ∃ (kq : Nat) (x30_4 : Bool), v30 = .bool x30_4 ∧ Aside0 (pumicelaw04_FaultFound.j0 kq a0 t159 x30_4 = some r) ∧ Aside0 (kq ≤ k) ∧ Aside0 (Below w.heap.size w wc))
  case first =>
    have H := HC5.out
    clear HC5
    by_cases c8 : t159 = true
    · subst c8
      have H1 : (if t158 = a0 then ((fault_Name.f k a0).bind fun t160 => ((fault_Name.f k a1).bind fun t161 => (if t160.toList = t161.toList then (pumicelaw04_FaultFound.j0 k a0 true (a0 != a1)) else (pumicelaw04_FaultFound.j0 k a0 true false)))) else (pumicelaw04_FaultFound.j0 k a0 true true)) = some r := by rw [if_pos rfl] at H; exact H
      clear H
      have H := H1
      clear H1
      by_cases c9 : t158 = a0
      · rw [if_pos c9] at H
        have c9b0 : (t158 == a0) = true := beq_iff_eq.mpr c9
        have c9b1 : (t158 != a0) = false := bne_eq_false_iff_eq.mpr c9
        clear c9
        (first | rw [c9b0] | (simp only [i64_w, i32_w]; rw [c9b0]) | skip)
        replace H := Option.bind_eq_some_iff.mp H
        obtain ⟨t160, A100, H⟩ := H
        replace H : ((fault_Name.f k a1).bind fun t161 => (if t160.toList = t161.toList then (pumicelaw04_FaultFound.j0 k a0 true (a0 != a1)) else (pumicelaw04_FaultFound.j0 k a0 true false))) = some r := H
        have A10 := Aside0.mk A100
        clear A100
        replace H := Option.bind_eq_some_iff.mp H
        obtain ⟨t161, A110, H⟩ := H
        replace H : (if t160.toList = t161.toList then (pumicelaw04_FaultFound.j0 k a0 true (a0 != a1)) else (pumicelaw04_FaultFound.j0 k a0 true false)) = some r := H
        have A11 := Aside0.mk A110
        clear A110
        by_cases c12 : t160.toList = t161.toList
        · rw [if_pos c12] at H
          have c12b0 : (t160.toList == t161.toList) = true := beq_iff_eq.mpr c12
          have c12b1 : (t160.toList != t161.toList) = false := bne_eq_false_iff_eq.mpr c12
          clear c12
          have H' := Aside0.mk H
          clear H
          go_wp2_with (first | (go_at_call 14; (with_reducible refine (fault_Name.calls k a0 t160 _ (HW.out.on (by repeat (first | (with_reducible first | exact HB.out | apply below_alloc | apply pw_below_drewN | apply below_drew1) | exact HB.out))) A10.out).mono ?_); rintro e w13 ⟨rfl, hb⟩; have n0_ := Aside0.mk (below_step (by repeat (first | (with_reducible first | exact HB.out | apply below_alloc | apply pw_below_drewN | apply below_drew1) | exact HB.out)) hb); clear HB; have HB := n0_; clear n0_; (try clear hb); (try clear hb2); (try clear hk); (try clear hi)) | (go_at_call 14; (with_reducible refine (fault_Name.calls k a1 t161 _ (HW.out.on (by repeat (first | (with_reducible first | exact HB.out | apply below_alloc | apply pw_below_drewN | apply below_drew1) | exact HB.out))) A11.out).mono ?_); rintro e w14 ⟨rfl, hb⟩; have n0_ := Aside0.mk (below_step (by repeat (first | (with_reducible first | exact HB.out | apply below_alloc | apply pw_below_drewN | apply below_drew1) | exact HB.out)) hb); clear HB; have HB := n0_; clear n0_; (try clear hb); (try clear hb2); (try clear hk); (try clear hi)))
          go_meet
          case rel => exact ⟨_, ((a0 != a1)), (by first | rfl | (simp; done) | (simp [*]; done) | (simp [wrap64]; done)), H', ⟨by first | omega | exact Nat.le_refl _⟩, ⟨by repeat (first | (with_reducible first | exact HB.out | apply below_alloc | apply pw_below_drewN | apply below_drew1) | exact HB.out)⟩⟩
        · rw [if_neg c12] at H
          have c12b0 : (t160.toList == t161.toList) = false := beq_eq_false_iff_ne.mpr c12
          have c12b1 : (t160.toList != t161.toList) = true := bne_iff_ne.mpr c12
          have H' := Aside0.mk H
          clear H
          go_wp2_with (first | (go_at_call 14; (with_reducible refine (fault_Name.calls k a0 t160 _ (HW.out.on (by repeat (first | (with_reducible first | exact HB.out | apply below_alloc | apply pw_below_drewN | apply below_drew1) | exact HB.out))) A10.out).mono ?_); rintro e w15 ⟨rfl, hb⟩; have n0_ := Aside0.mk (below_step (by repeat (first | (with_reducible first | exact HB.out | apply below_alloc | apply pw_below_drewN | apply below_drew1) | exact HB.out)) hb); clear HB; have HB := n0_; clear n0_; (try clear hb); (try clear hb2); (try clear hk); (try clear hi)) | (go_at_call 14; (with_reducible refine (fault_Name.calls k a1 t161 _ (HW.out.on (by repeat (first | (with_reducible first | exact HB.out | apply below_alloc | apply pw_below_drewN | apply below_drew1) | exact HB.out))) A11.out).mono ?_); rintro e w16 ⟨rfl, hb⟩; have n0_ := Aside0.mk (below_step (by repeat (first | (with_reducible first | exact HB.out | apply below_alloc | apply pw_below_drewN | apply below_drew1) | exact HB.out)) hb); clear HB; have HB := n0_; clear n0_; (try clear hb); (try clear hb2); (try clear hk); (try clear hi)))
          go_meet
          case rel => exact ⟨_, (false), (by first | rfl | (simp; done) | (simp [*]; done) | (simp [wrap64]; done)), H', ⟨by first | omega | exact Nat.le_refl _⟩, ⟨by repeat (first | (with_reducible first | exact HB.out | apply below_alloc | apply pw_below_drewN | apply below_drew1) | exact HB.out)⟩⟩
      · rw [if_neg c9] at H
        have c9b0 : (t158 == a0) = false := beq_eq_false_iff_ne.mpr c9
        have c9b1 : (t158 != a0) = true := bne_iff_ne.mpr c9
        (first | rw [c9b0] | (simp only [i64_w, i32_w]; rw [c9b0]) | skip)
        have H' := Aside0.mk H
        clear H
        go_wp2
        go_meet
        case rel => exact ⟨_, (true), (by first | rfl | (simp; done) | (simp [*]; done) | (simp [wrap64]; done)), H', ⟨by first | omega | exact Nat.le_refl _⟩, ⟨by repeat (first | (with_reducible first | exact HB.out | apply below_alloc | apply pw_below_drewN | apply below_drew1) | exact HB.out)⟩⟩
    · replace c8 := Bool.eq_false_iff.mpr c8
      subst c8
      have H1 : ((fault_Name.f k a0).bind fun t162 => ((fault_Name.f k a1).bind fun t163 => (if t162.toList = t163.toList then (pumicelaw04_FaultFound.j0 k a0 false (a0 != a1)) else (pumicelaw04_FaultFound.j0 k a0 false false)))) = some r := by rw [if_neg (show ¬ (false = true) by decide)] at H; exact H
      clear H
      have H := H1
      clear H1
      replace H := Option.bind_eq_some_iff.mp H
      obtain ⟨t162, A170, H⟩ := H
      replace H : ((fault_Name.f k a1).bind fun t163 => (if t162.toList = t163.toList then (pumicelaw04_FaultFound.j0 k a0 false (a0 != a1)) else (pumicelaw04_FaultFound.j0 k a0 false false))) = some r := H
      have A17 := Aside0.mk A170
      clear A170
      replace H := Option.bind_eq_some_iff.mp H
      obtain ⟨t163, A180, H⟩ := H
      replace H : (if t162.toList = t163.toList then (pumicelaw04_FaultFound.j0 k a0 false (a0 != a1)) else (pumicelaw04_FaultFound.j0 k a0 false false)) = some r := H
      have A18 := Aside0.mk A180
      clear A180
      by_cases c19 : t162.toList = t163.toList
      · rw [if_pos c19] at H
        have c19b0 : (t162.toList == t163.toList) = true := beq_iff_eq.mpr c19
        have c19b1 : (t162.toList != t163.toList) = false := bne_eq_false_iff_eq.mpr c19
        clear c19
        have H' := Aside0.mk H
        clear H
        go_wp2_with (first | (go_at_call 14; (with_reducible refine (fault_Name.calls k a0 t162 _ (HW.out.on (by repeat (first | (with_reducible first | exact HB.out | apply below_alloc | apply pw_below_drewN | apply below_drew1) | exact HB.out))) A17.out).mono ?_); rintro e w20 ⟨rfl, hb⟩; have n0_ := Aside0.mk (below_step (by repeat (first | (with_reducible first | exact HB.out | apply below_alloc | apply pw_below_drewN | apply below_drew1) | exact HB.out)) hb); clear HB; have HB := n0_; clear n0_; (try clear hb); (try clear hb2); (try clear hk); (try clear hi)) | (go_at_call 14; (with_reducible refine (fault_Name.calls k a1 t163 _ (HW.out.on (by repeat (first | (with_reducible first | exact HB.out | apply below_alloc | apply pw_below_drewN | apply below_drew1) | exact HB.out))) A18.out).mono ?_); rintro e w21 ⟨rfl, hb⟩; have n0_ := Aside0.mk (below_step (by repeat (first | (with_reducible first | exact HB.out | apply below_alloc | apply pw_below_drewN | apply below_drew1) | exact HB.out)) hb); clear HB; have HB := n0_; clear n0_; (try clear hb); (try clear hb2); (try clear hk); (try clear hi)))
        go_meet
        case rel => exact ⟨_, ((a0 != a1)), (by first | rfl | (simp; done) | (simp [*]; done) | (simp [wrap64]; done)), H', ⟨by first | omega | exact Nat.le_refl _⟩, ⟨by repeat (first | (with_reducible first | exact HB.out | apply below_alloc | apply pw_below_drewN | apply below_drew1) | exact HB.out)⟩⟩
      · rw [if_neg c19] at H
        have c19b0 : (t162.toList == t163.toList) = false := beq_eq_false_iff_ne.mpr c19
        have c19b1 : (t162.toList != t163.toList) = true := bne_iff_ne.mpr c19
        have H' := Aside0.mk H
        clear H
        go_wp2_with (first | (go_at_call 14; (with_reducible refine (fault_Name.calls k a0 t162 _ (HW.out.on (by repeat (first | (with_reducible first | exact HB.out | apply below_alloc | apply pw_below_drewN | apply below_drew1) | exact HB.out))) A17.out).mono ?_); rintro e w22 ⟨rfl, hb⟩; have n0_ := Aside0.mk (below_step (by repeat (first | (with_reducible first | exact HB.out | apply below_alloc | apply pw_below_drewN | apply below_drew1) | exact HB.out)) hb); clear HB; have HB := n0_; clear n0_; (try clear hb); (try clear hb2); (try clear hk); (try clear hi)) | (go_at_call 14; (with_reducible refine (fault_Name.calls k a1 t163 _ (HW.out.on (by repeat (first | (with_reducible first | exact HB.out | apply below_alloc | apply pw_below_drewN | apply below_drew1) | exact HB.out))) A18.out).mono ?_); rintro e w23 ⟨rfl, hb⟩; have n0_ := Aside0.mk (below_step (by repeat (first | (with_reducible first | exact HB.out | apply below_alloc | apply pw_below_drewN | apply below_drew1) | exact HB.out)) hb); clear HB; have HB := n0_; clear n0_; (try clear hb); (try clear hb2); (try clear hk); (try clear hi)))
        go_meet
        case rel => exact ⟨_, (false), (by first | rfl | (simp; done) | (simp [*]; done) | (simp [wrap64]; done)), H', ⟨by first | omega | exact Nat.le_refl _⟩, ⟨by repeat (first | (with_reducible first | exact HB.out | apply below_alloc | apply pw_below_drewN | apply below_drew1) | exact HB.out)⟩⟩
  case rest =>
    clear HC5
    try clear c1
    try clear p2
    try clear c4
    try clear p6
    try clear c8
    try clear c9
    try clear c9b0
    try clear c9b1
    try clear c10
    try clear c12
    try clear c12b0
    try clear c12b1
    try clear c14
    try clear c19
    try clear c19b0
    try clear c19b1
    obtain ⟨kq, x30_4, rfl, HA, HJ4, HB⟩ := hcut
    cases kq with
    | zero => exact absurd HA.out (by simp [pumicelaw04_FaultFound.j0])
    | succ kj4 =>
      have H := HA.out
      clear HA
      simp only [pumicelaw04_FaultFound.j0] at H
      by_cases c24 : x30_4 = true
      · subst c24
        have H1 : (none) = some r := by rw [if_pos rfl] at H; exact H
        clear H
        have H := H1
        clear H1
        exact absurd H (by simp)
      · replace c24 := Bool.eq_false_iff.mpr c24
        subst c24
        have H1 : ((fault_Class.f kj4 a0).bind fun t164 => (if ((t164 == 0) == (a0 == 0)) = true then (if t159 = true then ((fault_Class.f kj4 a0).bind fun t165 => (if t165 < 6 then ((alive.f).bind fun t166 => (some t166)) else (none))) else ((fault_Class.f kj4 a0).bind fun t167 => (if t167 = 6 then ((alive.f).bind fun t168 => (some t168)) else (none)))) else (none))) = some r := by rw [if_neg (show ¬ (false = true) by decide)] at H; exact H
        clear H
        have H := H1
        clear H1
        replace H := Option.bind_eq_some_iff.mp H
        obtain ⟨t164, A250, H⟩ := H
        replace H : (if ((t164 == 0) == (a0 == 0)) = true then (if t159 = true then ((fault_Class.f kj4 a0).bind fun t165 => (if t165 < 6 then ((alive.f).bind fun t166 => (some t166)) else (none))) else ((fault_Class.f kj4 a0).bind fun t167 => (if t167 = 6 then ((alive.f).bind fun t168 => (some t168)) else (none)))) else (none)) = some r := H
        have A25 := Aside0.mk A250
        clear A250
        by_cases c26 : ((t164 == 0) == (a0 == 0)) = true
        · rw [if_pos c26] at H
          have c26b0 : ((t164 == 0) == (a0 == 0)) = true := c26
          (try (have c26b1 : decide ((t164 == 0) = (a0 == 0)) = true := by simpa using c26))
          (try (have c26b2 : ((t164 == 0) == (a0 == 0)) = true := by simpa using c26))
          clear c26
          by_cases c27 : t159 = true
          · subst c27
            have H1 : ((fault_Class.f kj4 a0).bind fun t165 => (if t165 < 6 then ((alive.f).bind fun t166 => (some t166)) else (none))) = some r := by rw [if_pos rfl] at H; exact H
            clear H
            have H := H1
            clear H1
            replace H := Option.bind_eq_some_iff.mp H
            obtain ⟨t165, A280, H⟩ := H
            replace H : (if t165 < 6 then ((alive.f).bind fun t166 => (some t166)) else (none)) = some r := H
            have A28 := Aside0.mk A280
            clear A280
            by_cases c29 : t165 < 6
            · rw [if_pos c29] at H
              have c29b0 : decide (t165 < 6) = true := decide_eq_true c29
              clear c29
              replace H := Option.bind_eq_some_iff.mp H
              obtain ⟨t166, A300, H⟩ := H
              replace H : (some t166) = some r := H
              have A30 := Aside0.mk A300
              clear A300
              obtain rfl := Option.some.inj H
              go_wp2_with (first | ((with_reducible refine gate_callee (f := 12) rfl ?_); refine goesL_ (some 32) rfl rfl Tryd.func12 (by kernel_rfl) rfl #[.int .i64 a0] rfl (by (try simp only [List.map_toArray, List.map_cons, List.map_nil]); first | done | rfl | (simp only [List.length_drop, List.length_take]; rfl)) ?_; (with_reducible refine (fault_Class.calls kj4 a0 t164 _ A25.out).mono ?_); rintro e w' ⟨rfl, ⟨nd, rfl⟩⟩; refine ⟨_, rfl, ?_⟩) | (go_at_call 12; (with_reducible refine (fault_Class.calls kj4 a0 t165 _ A28.out).mono ?_); rintro e w' ⟨rfl, ⟨nd, rfl⟩⟩) | (go_at_call 16; (with_reducible refine (alive.calls  t166 _ (HW.out.on (by repeat (first | (with_reducible first | exact HB.out | apply below_alloc | apply pw_below_drewN | apply below_drew1) | exact HB.out))) A30.out).mono ?_); rintro e w31 ⟨rfl, hb⟩; have n0_ := Aside0.mk (below_step (by repeat (first | (with_reducible first | exact HB.out | apply below_alloc | apply pw_below_drewN | apply below_drew1) | exact HB.out)) hb); clear HB; have HB := n0_; clear n0_; (try clear hb); (try clear hb2); (try clear hk); (try clear hi)))
              go_ret
              exact ⟨by first | rfl | exact isEmpty_bne_ _ | (simp [errW_none, errW_some] <;> rfl) | (simp [*, errW_none, errW_some] <;> rfl), by repeat (first | (with_reducible first | exact HB.out | apply below_alloc | apply pw_below_drewN | apply below_drew1) | exact HB.out)⟩
            · rw [if_neg c29] at H
              exact absurd H (by simp)
          · replace c27 := Bool.eq_false_iff.mpr c27
            subst c27
            have H1 : ((fault_Class.f kj4 a0).bind fun t167 => (if t167 = 6 then ((alive.f).bind fun t168 => (some t168)) else (none))) = some r := by rw [if_neg (show ¬ (false = true) by decide)] at H; exact H
            clear H
            have H := H1
            clear H1
            replace H := Option.bind_eq_some_iff.mp H
            obtain ⟨t167, A320, H⟩ := H
            replace H : (if t167 = 6 then ((alive.f).bind fun t168 => (some t168)) else (none)) = some r := H
            have A32 := Aside0.mk A320
            clear A320
            by_cases c33 : t167 = 6
            · rw [if_pos c33] at H
              have c33b0 : (t167 == 6) = true := beq_iff_eq.mpr c33
              have c33b1 : (t167 != 6) = false := bne_eq_false_iff_eq.mpr c33
              clear c33
              replace H := Option.bind_eq_some_iff.mp H
              obtain ⟨t168, A340, H⟩ := H
              replace H : (some t168) = some r := H
              have A34 := Aside0.mk A340
              clear A340
              obtain rfl := Option.some.inj H
              go_wp2_with (first | ((with_reducible refine gate_callee (f := 12) rfl ?_); refine goesL_ (some 32) rfl rfl Tryd.func12 (by kernel_rfl) rfl #[.int .i64 a0] rfl (by (try simp only [List.map_toArray, List.map_cons, List.map_nil]); first | done | rfl | (simp only [List.length_drop, List.length_take]; rfl)) ?_; (with_reducible refine (fault_Class.calls kj4 a0 t164 _ A25.out).mono ?_); rintro e w' ⟨rfl, ⟨nd, rfl⟩⟩; refine ⟨_, rfl, ?_⟩) | (go_at_call 12; (with_reducible refine (fault_Class.calls kj4 a0 t167 _ A32.out).mono ?_); rintro e w' ⟨rfl, ⟨nd, rfl⟩⟩) | (go_at_call 16; (with_reducible refine (alive.calls  t168 _ (HW.out.on (by repeat (first | (with_reducible first | exact HB.out | apply below_alloc | apply pw_below_drewN | apply below_drew1) | exact HB.out))) A34.out).mono ?_); rintro e w35 ⟨rfl, hb⟩; have n0_ := Aside0.mk (below_step (by repeat (first | (with_reducible first | exact HB.out | apply below_alloc | apply pw_below_drewN | apply below_drew1) | exact HB.out)) hb); clear HB; have HB := n0_; clear n0_; (try clear hb); (try clear hb2); (try clear hk); (try clear hi)))
              go_ret
              exact ⟨by first | rfl | exact isEmpty_bne_ _ | (simp [errW_none, errW_some] <;> rfl) | (simp [*, errW_none, errW_some] <;> rfl), by repeat (first | (with_reducible first | exact HB.out | apply below_alloc | apply pw_below_drewN | apply below_drew1) | exact HB.out)⟩
            · rw [if_neg c33] at H
              exact absurd H (by simp)
        · rw [if_neg c26] at H
          exact absurd H (by simp)

/-! ### pumicelaw04_FaultNames: function 3 -/
def pumicelaw04_FaultNames.f (k : Nat) (a0 : Int) (a1 : ByteArray) : Option (Bool) := (fault_Find.f k a1).bind fun bt169 => ((pumiceref04_Find.f k a1).bind fun bt171 => ((fault_Class.f k a0).bind fun t173 => ((pumiceref04_Class.f k a0).bind fun t174 => (if t173 = t174 then ((fault_Name.f k a0).bind fun t175 => ((pumiceref04_Name.f k a0).bind fun t176 => (if t175.toList = t176.toList then (if bt169.1 = bt171.1 then (if (bt169.2 == bt171.2) = true then ((alive.f).bind fun t177 => (some t177)) else (none)) else (none)) else (none)))) else (none)))))
theorem pumicelaw04_FaultNames.mono : ∀ a0 a1 k, LeO (pumicelaw04_FaultNames.f k a0 a1) (pumicelaw04_FaultNames.f (k + 1) a0 a1) := by
  intro a0 a1 k
  unfold pumicelaw04_FaultNames.f
  repeat' first
      | (with_reducible exact fault_Class.mono _ _)
      | (with_reducible exact fault_Find.mono _ _)
      | (with_reducible exact fault_Name.mono _ _)
      | (with_reducible exact pumiceref04_Class.mono _ _)
      | (with_reducible exact pumiceref04_Find.mono _ _)
      | (with_reducible exact pumiceref04_Name.mono _ _)
      | (with_reducible exact LeO.refl _)
      | (with_reducible exact LeO.none _)
      | (with_reducible refine LeO.ite ?_ ?_)
      | (with_reducible refine LeO.bind ?_ (fun _ => ?_))
      | exact fault_Class.mono _ _
      | exact fault_Find.mono _ _
      | exact fault_Name.mono _ _
      | exact pumiceref04_Class.mono _ _
      | exact pumiceref04_Find.mono _ _
      | exact pumiceref04_Name.mono _ _
      | exact LeO.none _
      | refine LeO.ite ?_ ?_
      | refine LeO.bind ?_ (fun _ => ?_)
set_option maxHeartbeats 8000000 in
set_option maxRecDepth 100000 in
theorem pumicelaw04_FaultNames.calls (k : Nat) (a0 : Int) (a1 : ByteArray) (r : Bool) (w : World) (HW0 : As.Laid w) (h : pumicelaw04_FaultNames.f k a0 a1 = some r) :
    Calls Tryd.prog 3 #[.int .i64 a0, .string a1] w fun e w' => e = .returned (.bool r) ∧ Below w.heap.size w w' := by
  have HB := Aside0.mk (Below.refl w.heap.size w)
  have HW := Aside0.mk HW0
  clear HW0
  have H : ((fault_Find.f k a1).bind fun bt169 => ((pumiceref04_Find.f k a1).bind fun bt171 => ((fault_Class.f k a0).bind fun t173 => ((pumiceref04_Class.f k a0).bind fun t174 => (if t173 = t174 then ((fault_Name.f k a0).bind fun t175 => ((pumiceref04_Name.f k a0).bind fun t176 => (if t175.toList = t176.toList then (if bt169.1 = bt171.1 then (if (bt169.2 == bt171.2) = true then ((alive.f).bind fun t177 => (some t177)) else (none)) else (none)) else (none)))) else (none)))))) = some r := h
  clear h
  replace H := Option.bind_eq_some_iff.mp H
  obtain ⟨⟨t169, t170⟩, A30, H⟩ := H
  replace H : ((pumiceref04_Find.f k a1).bind fun bt171 => ((fault_Class.f k a0).bind fun t173 => ((pumiceref04_Class.f k a0).bind fun t174 => (if t173 = t174 then ((fault_Name.f k a0).bind fun t175 => ((pumiceref04_Name.f k a0).bind fun t176 => (if t175.toList = t176.toList then (if t169 = bt171.1 then (if (t170 == bt171.2) = true then ((alive.f).bind fun t177 => (some t177)) else (none)) else (none)) else (none)))) else (none))))) = some r := H
  have A3 := Aside0.mk A30
  clear A30
  replace H := Option.bind_eq_some_iff.mp H
  obtain ⟨⟨t171, t172⟩, A40, H⟩ := H
  replace H : ((fault_Class.f k a0).bind fun t173 => ((pumiceref04_Class.f k a0).bind fun t174 => (if t173 = t174 then ((fault_Name.f k a0).bind fun t175 => ((pumiceref04_Name.f k a0).bind fun t176 => (if t175.toList = t176.toList then (if t169 = t171 then (if (t170 == t172) = true then ((alive.f).bind fun t177 => (some t177)) else (none)) else (none)) else (none)))) else (none)))) = some r := H
  have A4 := Aside0.mk A40
  clear A40
  replace H := Option.bind_eq_some_iff.mp H
  obtain ⟨t173, A50, H⟩ := H
  replace H : ((pumiceref04_Class.f k a0).bind fun t174 => (if t173 = t174 then ((fault_Name.f k a0).bind fun t175 => ((pumiceref04_Name.f k a0).bind fun t176 => (if t175.toList = t176.toList then (if t169 = t171 then (if (t170 == t172) = true then ((alive.f).bind fun t177 => (some t177)) else (none)) else (none)) else (none)))) else (none))) = some r := H
  have A5 := Aside0.mk A50
  clear A50
  replace H := Option.bind_eq_some_iff.mp H
  obtain ⟨t174, A60, H⟩ := H
  replace H : (if t173 = t174 then ((fault_Name.f k a0).bind fun t175 => ((pumiceref04_Name.f k a0).bind fun t176 => (if t175.toList = t176.toList then (if t169 = t171 then (if (t170 == t172) = true then ((alive.f).bind fun t177 => (some t177)) else (none)) else (none)) else (none)))) else (none)) = some r := H
  have A6 := Aside0.mk A60
  clear A60
  by_cases c7 : t173 = t174
  · rw [if_pos c7] at H
    have c7b0 : (t173 == t174) = true := beq_iff_eq.mpr c7
    have c7b1 : (t173 != t174) = false := bne_eq_false_iff_eq.mpr c7
    clear c7
    replace H := Option.bind_eq_some_iff.mp H
    obtain ⟨t175, A80, H⟩ := H
    replace H : ((pumiceref04_Name.f k a0).bind fun t176 => (if t175.toList = t176.toList then (if t169 = t171 then (if (t170 == t172) = true then ((alive.f).bind fun t177 => (some t177)) else (none)) else (none)) else (none))) = some r := H
    have A8 := Aside0.mk A80
    clear A80
    replace H := Option.bind_eq_some_iff.mp H
    obtain ⟨t176, A90, H⟩ := H
    replace H : (if t175.toList = t176.toList then (if t169 = t171 then (if (t170 == t172) = true then ((alive.f).bind fun t177 => (some t177)) else (none)) else (none)) else (none)) = some r := H
    have A9 := Aside0.mk A90
    clear A90
    by_cases c10 : t175.toList = t176.toList
    · rw [if_pos c10] at H
      have c10b0 : (t175.toList == t176.toList) = true := beq_iff_eq.mpr c10
      have c10b1 : (t175.toList != t176.toList) = false := bne_eq_false_iff_eq.mpr c10
      clear c10
      by_cases c11 : t169 = t171
      · rw [if_pos c11] at H
        have c11b0 : (t169 == t171) = true := beq_iff_eq.mpr c11
        have c11b1 : (t169 != t171) = false := bne_eq_false_iff_eq.mpr c11
        clear c11
        by_cases c12 : (t170 == t172) = true
        · rw [if_pos c12] at H
          have c12b0 : (t170 == t172) = true := c12
          (try (have c12b1 : decide (t170 = t172) = true := by simpa using c12))
          (try (have c12b2 : (t170 == t172) = true := by simpa using c12))
          clear c12
          replace H := Option.bind_eq_some_iff.mp H
          obtain ⟨t177, A130, H⟩ := H
          replace H : (some t177) = some r := H
          have A13 := Aside0.mk A130
          clear A130
          obtain rfl := Option.some.inj H
          go_enter Tryd.func3, Tryd.ntmps3
          go_wp2_with (first | ((with_reducible refine gate_callee (f := 10) rfl ?_); refine goesL_ (some 11) rfl rfl Tryd.func10 (by kernel_rfl) rfl #[.string a1] rfl (by (try simp only [List.map_toArray, List.map_cons, List.map_nil]); first | done | rfl | (simp only [List.length_drop, List.length_take]; rfl)) ?_; (with_reducible refine (fault_Find.calls k a1 t169 t170 _ A3.out).mono ?_); rintro e w14 ⟨rfl, hb⟩; refine ⟨_, rfl, ?_⟩; have n0_ := Aside0.mk (below_step (by repeat (first | (with_reducible first | exact HB.out | apply below_alloc | apply pw_below_drewN | apply below_drew1) | exact HB.out)) hb); clear HB; have HB := n0_; clear n0_; (try clear hb); (try clear hb2); (try clear hk); (try clear hi)) | ((with_reducible refine gate_callee (f := 11) rfl ?_); refine goesL_ (some 16) rfl rfl Tryd.func11 (by kernel_rfl) rfl #[.string a1] rfl (by (try simp only [List.map_toArray, List.map_cons, List.map_nil]); first | done | rfl | (simp only [List.length_drop, List.length_take]; rfl)) ?_; (with_reducible refine (pumiceref04_Find.calls k a1 t171 t172 _ A4.out).mono ?_); rintro e w15 ⟨rfl, hb⟩; refine ⟨_, rfl, ?_⟩; have n0_ := Aside0.mk (below_step (by repeat (first | (with_reducible first | exact HB.out | apply below_alloc | apply pw_below_drewN | apply below_drew1) | exact HB.out)) hb); clear HB; have HB := n0_; clear n0_; (try clear hb); (try clear hb2); (try clear hk); (try clear hi)) | ((with_reducible refine gate_callee (f := 12) rfl ?_); refine goesL_ (some 20) rfl rfl Tryd.func12 (by kernel_rfl) rfl #[.int .i64 a0] rfl (by (try simp only [List.map_toArray, List.map_cons, List.map_nil]); first | done | rfl | (simp only [List.length_drop, List.length_take]; rfl)) ?_; (with_reducible refine (fault_Class.calls k a0 t173 _ A5.out).mono ?_); rintro e w' ⟨rfl, ⟨nd, rfl⟩⟩; refine ⟨_, rfl, ?_⟩) | ((with_reducible refine gate_callee (f := 13) rfl ?_); refine goesL_ (some 22) rfl rfl Tryd.func13 (by kernel_rfl) rfl #[.int .i64 a0] rfl (by (try simp only [List.map_toArray, List.map_cons, List.map_nil]); first | done | rfl | (simp only [List.length_drop, List.length_take]; rfl)) ?_; (with_reducible refine (pumiceref04_Class.calls k a0 t174 _ A6.out).mono ?_); rintro e w' ⟨rfl, ⟨nd, rfl⟩⟩; refine ⟨_, rfl, ?_⟩) | (go_at_call 14; (with_reducible refine (fault_Name.calls k a0 t175 _ (HW.out.on (by repeat (first | (with_reducible first | exact HB.out | apply below_alloc | apply pw_below_drewN | apply below_drew1) | exact HB.out))) A8.out).mono ?_); rintro e w16 ⟨rfl, hb⟩; have n0_ := Aside0.mk (below_step (by repeat (first | (with_reducible first | exact HB.out | apply below_alloc | apply pw_below_drewN | apply below_drew1) | exact HB.out)) hb); clear HB; have HB := n0_; clear n0_; (try clear hb); (try clear hb2); (try clear hk); (try clear hi)) | (go_at_call 15; (with_reducible refine (pumiceref04_Name.calls k a0 t176 _ A9.out).mono ?_); rintro e w17 ⟨rfl, hb⟩; have n0_ := Aside0.mk (below_step (by repeat (first | (with_reducible first | exact HB.out | apply below_alloc | apply pw_below_drewN | apply below_drew1) | exact HB.out)) hb); clear HB; have HB := n0_; clear n0_; (try clear hb); (try clear hb2); (try clear hk); (try clear hi)) | (go_at_call 16; (with_reducible refine (alive.calls  t177 _ (HW.out.on (by repeat (first | (with_reducible first | exact HB.out | apply below_alloc | apply pw_below_drewN | apply below_drew1) | exact HB.out))) A13.out).mono ?_); rintro e w18 ⟨rfl, hb⟩; have n0_ := Aside0.mk (below_step (by repeat (first | (with_reducible first | exact HB.out | apply below_alloc | apply pw_below_drewN | apply below_drew1) | exact HB.out)) hb); clear HB; have HB := n0_; clear n0_; (try clear hb); (try clear hb2); (try clear hk); (try clear hi)))
          go_ret
          exact ⟨by first | rfl | exact isEmpty_bne_ _ | (simp [errW_none, errW_some] <;> rfl) | (simp [*, errW_none, errW_some] <;> rfl), by repeat (first | (with_reducible first | exact HB.out | apply below_alloc | apply pw_below_drewN | apply below_drew1) | exact HB.out)⟩
        · rw [if_neg c12] at H
          exact absurd H (by simp)
      · rw [if_neg c11] at H
        exact absurd H (by simp)
    · rw [if_neg c10] at H
      exact absurd H (by simp)
  · rw [if_neg c7] at H
    exact absurd H (by simp)

end Go.Proofs.YtfmmmojlnfndkaaDoor.Q
