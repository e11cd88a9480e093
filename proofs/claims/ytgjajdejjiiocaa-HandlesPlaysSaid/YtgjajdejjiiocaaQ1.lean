/- Functions of this seat as plain Lean functions, each with the contract that the machine keeps. No condition. Laid by wip/qprint.py. -/
import Derived.Test.YtgjajdejjiiocaaQ0
namespace Go.Proofs.Ytgjajdejjiiocaa.Q
open Go.RowKit Go.Proofs.YtgjajdejjiiocaaW.PrintWords Go.Proofs.YtgjajdejjiiocaaW.PrintLast Go.Proofs.YtgjajdejjiiocaaW.PrintMore
attribute [local go_sem] max2_int min2_int max_two min_two max_three min_three max_four min_four   -- for this text's walks alone
set_option linter.unusedVariables false
set_option linter.unusedSimpArgs false

/-! ### pumiceref21_Flags: function 25 -/
def pumiceref21_Flags.f (a0 : Int) : Option (Int) := if (Go.bits .andNot .i64 a0 63) = 0 then (if (Go.bits .and .i64 a0 3) = 0 then (some 22) else (if (Go.bits .and .i64 a0 8) = 0 then (if (Go.bits .and .i64 a0 48) = 0 then (some 0) else (if (Go.bits .and .i64 a0 2) = 0 then (some 22) else (some 0))) else (if (Go.bits .and .i64 a0 4) = 0 then (some 22) else (if (Go.bits .and .i64 a0 48) = 0 then (some 0) else (if (Go.bits .and .i64 a0 2) = 0 then (some 22) else (some 0)))))) else (some 22)
set_option maxHeartbeats 8000000 in
set_option maxRecDepth 100000 in
theorem pumiceref21_Flags.calls (a0 : Int) (r : Int) (w : World) (h : pumiceref21_Flags.f a0 = some r) :
    Calls Try.prog 25 #[.int .i64 a0] w fun e w' => e = .returned (.int .i64 r) ∧ Drawn0 w w' := by
  have H : (if (Go.bits .andNot .i64 a0 63) = 0 then (if (Go.bits .and .i64 a0 3) = 0 then (some 22) else (if (Go.bits .and .i64 a0 8) = 0 then (if (Go.bits .and .i64 a0 48) = 0 then (some 0) else (if (Go.bits .and .i64 a0 2) = 0 then (some 22) else (some 0))) else (if (Go.bits .and .i64 a0 4) = 0 then (some 22) else (if (Go.bits .and .i64 a0 48) = 0 then (some 0) else (if (Go.bits .and .i64 a0 2) = 0 then (some 22) else (some 0)))))) else (some 22)) = some r := h
  clear h
  by_cases c2 : (Go.bits .andNot .i64 a0 63) = 0
  · rw [if_pos c2] at H
    have c2b0 : ((Go.bits .andNot .i64 a0 63) == 0) = true := beq_iff_eq.mpr c2
    have c2b1 : ((Go.bits .andNot .i64 a0 63) != 0) = false := bne_eq_false_iff_eq.mpr c2
    clear c2
    by_cases c3 : (Go.bits .and .i64 a0 3) = 0
    · rw [if_pos c3] at H
      have c3b0 : ((Go.bits .and .i64 a0 3) == 0) = true := beq_iff_eq.mpr c3
      have c3b1 : ((Go.bits .and .i64 a0 3) != 0) = false := bne_eq_false_iff_eq.mpr c3
      clear c3
      obtain rfl := Option.some.inj H
      go_enter Try.func25, Try.ntmps25
      go_wp2
      go_ret
      exact ⟨by first | rfl | exact isEmpty_bne_ _ | (simp; done) | (simp [*]; done) | (simp [wrap64]; done), by repeat (first | exact Drawn0.refl _ | apply Drawn0.step)⟩
    · rw [if_neg c3] at H
      have c3b0 : ((Go.bits .and .i64 a0 3) == 0) = false := beq_eq_false_iff_ne.mpr c3
      have c3b1 : ((Go.bits .and .i64 a0 3) != 0) = true := bne_iff_ne.mpr c3
      by_cases c4 : (Go.bits .and .i64 a0 8) = 0
      · rw [if_pos c4] at H
        have c4b0 : ((Go.bits .and .i64 a0 8) == 0) = true := beq_iff_eq.mpr c4
        have c4b1 : ((Go.bits .and .i64 a0 8) != 0) = false := bne_eq_false_iff_eq.mpr c4
        clear c4
        by_cases c5 : (Go.bits .and .i64 a0 48) = 0
        · rw [if_pos c5] at H
          have c5b0 : ((Go.bits .and .i64 a0 48) == 0) = true := beq_iff_eq.mpr c5
          have c5b1 : ((Go.bits .and .i64 a0 48) != 0) = false := bne_eq_false_iff_eq.mpr c5
          clear c5
          obtain rfl := Option.some.inj H
          go_enter Try.func25, Try.ntmps25
          go_wp2
          go_ret
          exact ⟨by first | rfl | exact isEmpty_bne_ _ | (simp; done) | (simp [*]; done) | (simp [wrap64]; done), by repeat (first | exact Drawn0.refl _ | apply Drawn0.step)⟩
        · rw [if_neg c5] at H
          have c5b0 : ((Go.bits .and .i64 a0 48) == 0) = false := beq_eq_false_iff_ne.mpr c5
          have c5b1 : ((Go.bits .and .i64 a0 48) != 0) = true := bne_iff_ne.mpr c5
          by_cases c6 : (Go.bits .and .i64 a0 2) = 0
          · rw [if_pos c6] at H
            have c6b0 : ((Go.bits .and .i64 a0 2) == 0) = true := beq_iff_eq.mpr c6
            have c6b1 : ((Go.bits .and .i64 a0 2) != 0) = false := bne_eq_false_iff_eq.mpr c6
            clear c6
            obtain rfl := Option.some.inj H
            go_enter Try.func25, Try.ntmps25
            go_wp2
            go_ret
            exact ⟨by first | rfl | exact isEmpty_bne_ _ | (simp; done) | (simp [*]; done) | (simp [wrap64]; done), by repeat (first | exact Drawn0.refl _ | apply Drawn0.step)⟩
          · rw [if_neg c6] at H
            have c6b0 : ((Go.bits .and .i64 a0 2) == 0) = false := beq_eq_false_iff_ne.mpr c6
            have c6b1 : ((Go.bits .and .i64 a0 2) != 0) = true := bne_iff_ne.mpr c6
            obtain rfl := Option.some.inj H
            go_enter Try.func25, Try.ntmps25
            go_wp2
            go_ret
            exact ⟨by first | rfl | exact isEmpty_bne_ _ | (simp; done) | (simp [*]; done) | (simp [wrap64]; done), by repeat (first | exact Drawn0.refl _ | apply Drawn0.step)⟩
      · rw [if_neg c4] at H
        have c4b0 : ((Go.bits .and .i64 a0 8) == 0) = false := beq_eq_false_iff_ne.mpr c4
        have c4b1 : ((Go.bits .and .i64 a0 8) != 0) = true := bne_iff_ne.mpr c4
        by_cases c7 : (Go.bits .and .i64 a0 4) = 0
        · rw [if_pos c7] at H
          have c7b0 : ((Go.bits .and .i64 a0 4) == 0) = true := beq_iff_eq.mpr c7
          have c7b1 : ((Go.bits .and .i64 a0 4) != 0) = false := bne_eq_false_iff_eq.mpr c7
          clear c7
          obtain rfl := Option.some.inj H
          go_enter Try.func25, Try.ntmps25
          go_wp2
          go_ret
          exact ⟨by first | rfl | exact isEmpty_bne_ _ | (simp; done) | (simp [*]; done) | (simp [wrap64]; done), by repeat (first | exact Drawn0.refl _ | apply Drawn0.step)⟩
        · rw [if_neg c7] at H
          have c7b0 : ((Go.bits .and .i64 a0 4) == 0) = false := beq_eq_false_iff_ne.mpr c7
          have c7b1 : ((Go.bits .and .i64 a0 4) != 0) = true := bne_iff_ne.mpr c7
          by_cases c8 : (Go.bits .and .i64 a0 48) = 0
          · rw [if_pos c8] at H
            have c8b0 : ((Go.bits .and .i64 a0 48) == 0) = true := beq_iff_eq.mpr c8
            have c8b1 : ((Go.bits .and .i64 a0 48) != 0) = false := bne_eq_false_iff_eq.mpr c8
            clear c8
            obtain rfl := Option.some.inj H
            go_enter Try.func25, Try.ntmps25
            go_wp2
            go_ret
            exact ⟨by first | rfl | exact isEmpty_bne_ _ | (simp; done) | (simp [*]; done) | (simp [wrap64]; done), by repeat (first | exact Drawn0.refl _ | apply Drawn0.step)⟩
          · rw [if_neg c8] at H
            have c8b0 : ((Go.bits .and .i64 a0 48) == 0) = false := beq_eq_false_iff_ne.mpr c8
            have c8b1 : ((Go.bits .and .i64 a0 48) != 0) = true := bne_iff_ne.mpr c8
            by_cases c9 : (Go.bits .and .i64 a0 2) = 0
            · rw [if_pos c9] at H
              have c9b0 : ((Go.bits .and .i64 a0 2) == 0) = true := beq_iff_eq.mpr c9
              have c9b1 : ((Go.bits .and .i64 a0 2) != 0) = false := bne_eq_false_iff_eq.mpr c9
              clear c9
              obtain rfl := Option.some.inj H
              go_enter Try.func25, Try.ntmps25
              go_wp2
              go_ret
              exact ⟨by first | rfl | exact isEmpty_bne_ _ | (simp; done) | (simp [*]; done) | (simp [wrap64]; done), by repeat (first | exact Drawn0.refl _ | apply Drawn0.step)⟩
            · rw [if_neg c9] at H
              have c9b0 : ((Go.bits .and .i64 a0 2) == 0) = false := beq_eq_false_iff_ne.mpr c9
              have c9b1 : ((Go.bits .and .i64 a0 2) != 0) = true := bne_iff_ne.mpr c9
              obtain rfl := Option.some.inj H
              go_enter Try.func25, Try.ntmps25
              go_wp2
              go_ret
              exact ⟨by first | rfl | exact isEmpty_bne_ _ | (simp; done) | (simp [*]; done) | (simp [wrap64]; done), by repeat (first | exact Drawn0.refl _ | apply Drawn0.step)⟩
  · rw [if_neg c2] at H
    have c2b0 : ((Go.bits .andNot .i64 a0 63) == 0) = false := beq_eq_false_iff_ne.mpr c2
    have c2b1 : ((Go.bits .andNot .i64 a0 63) != 0) = true := bne_iff_ne.mpr c2
    obtain rfl := Option.some.inj H
    go_enter Try.func25, Try.ntmps25
    go_wp2
    go_ret
    exact ⟨by first | rfl | exact isEmpty_bne_ _ | (simp; done) | (simp [*]; done) | (simp [wrap64]; done), by repeat (first | exact Drawn0.refl _ | apply Drawn0.step)⟩

/-! ### pumiceref23_sum: function 29 -/
def pumiceref23_sum.f (a0 : Int) (a1 : Int) : Option (Int × Bool) := if a0 > 0 then (if a1 > 0 then (if a0 > (wrap64 (16384 - a1)) then (some (0, false)) else (if a0 < 0 then (if a1 < 0 then (some (0, false)) else (if (wrap64 (a0 + a1)) ≥ 0 then (some (wrap64 (a0 + a1), decide ((wrap64 (a0 + a1)) ≤ 16384))) else (some (wrap64 (a0 + a1), false)))) else (if (wrap64 (a0 + a1)) ≥ 0 then (some (wrap64 (a0 + a1), decide ((wrap64 (a0 + a1)) ≤ 16384))) else (some (wrap64 (a0 + a1), false))))) else (if a0 < 0 then (if a1 < 0 then (some (0, false)) else (if (wrap64 (a0 + a1)) ≥ 0 then (some (wrap64 (a0 + a1), decide ((wrap64 (a0 + a1)) ≤ 16384))) else (some (wrap64 (a0 + a1), false)))) else (if (wrap64 (a0 + a1)) ≥ 0 then (some (wrap64 (a0 + a1), decide ((wrap64 (a0 + a1)) ≤ 16384))) else (some (wrap64 (a0 + a1), false))))) else (if a0 < 0 then (if a1 < 0 then (some (0, false)) else (if (wrap64 (a0 + a1)) ≥ 0 then (some (wrap64 (a0 + a1), decide ((wrap64 (a0 + a1)) ≤ 16384))) else (some (wrap64 (a0 + a1), false)))) else (if (wrap64 (a0 + a1)) ≥ 0 then (some (wrap64 (a0 + a1), decide ((wrap64 (a0 + a1)) ≤ 16384))) else (some (wrap64 (a0 + a1), false))))
set_option maxHeartbeats 8000000 in
set_option maxRecDepth 100000 in
theorem pumiceref23_sum.calls (a0 : Int) (a1 : Int) (r1 : Int) (r2 : Bool) (w : World) (h : pumiceref23_sum.f a0 a1 = some (r1, r2)) :
    Calls Try.prog 29 #[.int .i64 a0, .int .i64 a1] w fun e w' => e = .returned (.tuple #[.int .i64 r1, .bool r2]) ∧ Drawn0 w w' := by
  have H : (if a0 > 0 then (if a1 > 0 then (if a0 > (wrap64 (16384 - a1)) then (some (0, false)) else (if a0 < 0 then (if a1 < 0 then (some (0, false)) else (if (wrap64 (a0 + a1)) ≥ 0 then (some (wrap64 (a0 + a1), decide ((wrap64 (a0 + a1)) ≤ 16384))) else (some (wrap64 (a0 + a1), false)))) else (if (wrap64 (a0 + a1)) ≥ 0 then (some (wrap64 (a0 + a1), decide ((wrap64 (a0 + a1)) ≤ 16384))) else (some (wrap64 (a0 + a1), false))))) else (if a0 < 0 then (if a1 < 0 then (some (0, false)) else (if (wrap64 (a0 + a1)) ≥ 0 then (some (wrap64 (a0 + a1), decide ((wrap64 (a0 + a1)) ≤ 16384))) else (some (wrap64 (a0 + a1), false)))) else (if (wrap64 (a0 + a1)) ≥ 0 then (some (wrap64 (a0 + a1), decide ((wrap64 (a0 + a1)) ≤ 16384))) else (some (wrap64 (a0 + a1), false))))) else (if a0 < 0 then (if a1 < 0 then (some (0, false)) else (if (wrap64 (a0 + a1)) ≥ 0 then (some (wrap64 (a0 + a1), decide ((wrap64 (a0 + a1)) ≤ 16384))) else (some (wrap64 (a0 + a1), false)))) else (if (wrap64 (a0 + a1)) ≥ 0 then (some (wrap64 (a0 + a1), decide ((wrap64 (a0 + a1)) ≤ 16384))) else (some (wrap64 (a0 + a1), false))))) = some (r1, r2) := h
  clear h
  by_cases c3 : a0 > 0
  · rw [if_pos c3] at H
    have c3b0 : decide (0 < a0) = true := decide_eq_true c3
    clear c3
    by_cases c4 : a1 > 0
    · rw [if_pos c4] at H
      have c4b0 : decide (0 < a1) = true := decide_eq_true c4
      clear c4
      by_cases c5 : a0 > (wrap64 (16384 - a1))
      · rw [if_pos c5] at H
        have c5b0 : decide ((wrap64 (16384 - a1)) < a0) = true := decide_eq_true c5
        clear c5
        simp only [Option.some.injEq, Prod.mk.injEq] at H
        obtain ⟨rfl, rfl⟩ := H
        go_enter Try.func29, Try.ntmps29
        go_wp2
        go_ret2
        exact ⟨by first | rfl | exact isEmpty_bne_ _ | (simp; done) | (simp [*]; done) | (simp [wrap64]; done), by repeat (first | exact Drawn0.refl _ | apply Drawn0.step)⟩
      · rw [if_neg c5] at H
        have c5b0 : decide ((wrap64 (16384 - a1)) < a0) = false := decide_eq_false c5
        clear c5
        by_cases c6 : a0 < 0
        · rw [if_pos c6] at H
          have c6b0 : decide (a0 < 0) = true := decide_eq_true c6
          clear c6
          by_cases c7 : a1 < 0
          · rw [if_pos c7] at H
            have c7b0 : decide (a1 < 0) = true := decide_eq_true c7
            clear c7
            simp only [Option.some.injEq, Prod.mk.injEq] at H
            obtain ⟨rfl, rfl⟩ := H
            go_enter Try.func29, Try.ntmps29
            go_wp2
            go_ret2
            exact ⟨by first | rfl | exact isEmpty_bne_ _ | (simp; done) | (simp [*]; done) | (simp [wrap64]; done), by repeat (first | exact Drawn0.refl _ | apply Drawn0.step)⟩
          · rw [if_neg c7] at H
            have c7b0 : decide (a1 < 0) = false := decide_eq_false c7
            clear c7
            by_cases c8 : (wrap64 (a0 + a1)) ≥ 0
            · rw [if_pos c8] at H
              have c8b0 : decide (0 ≤ (wrap64 (a0 + a1))) = true := decide_eq_true c8
              clear c8
              simp only [Option.some.injEq, Prod.mk.injEq] at H
              obtain ⟨rfl, rfl⟩ := H
              go_enter Try.func29, Try.ntmps29
              go_wp2
              go_ret2
              exact ⟨by first | rfl | exact isEmpty_bne_ _ | (simp; done) | (simp [*]; done) | (simp [wrap64]; done), by repeat (first | exact Drawn0.refl _ | apply Drawn0.step)⟩
            · rw [if_neg c8] at H
              have c8b0 : decide (0 ≤ (wrap64 (a0 + a1))) = false := decide_eq_false c8
              clear c8
              simp only [Option.some.injEq, Prod.mk.injEq] at H
              obtain ⟨rfl, rfl⟩ := H
              go_enter Try.func29, Try.ntmps29
              go_wp2
              go_ret2
              exact ⟨by first | rfl | exact isEmpty_bne_ _ | (simp; done) | (simp [*]; done) | (simp [wrap64]; done), by repeat (first | exact Drawn0.refl _ | apply Drawn0.step)⟩
        · rw [if_neg c6] at H
          have c6b0 : decide (a0 < 0) = false := decide_eq_false c6
          clear c6
          by_cases c9 : (wrap64 (a0 + a1)) ≥ 0
          · rw [if_pos c9] at H
            have c9b0 : decide (0 ≤ (wrap64 (a0 + a1))) = true := decide_eq_true c9
            clear c9
            simp only [Option.some.injEq, Prod.mk.injEq] at H
            obtain ⟨rfl, rfl⟩ := H
            go_enter Try.func29, Try.ntmps29
            go_wp2
            go_ret2
            exact ⟨by first | rfl | exact isEmpty_bne_ _ | (simp; done) | (simp [*]; done) | (simp [wrap64]; done), by repeat (first | exact Drawn0.refl _ | apply Drawn0.step)⟩
          · rw [if_neg c9] at H
            have c9b0 : decide (0 ≤ (wrap64 (a0 + a1))) = false := decide_eq_false c9
            clear c9
            simp only [Option.some.injEq, Prod.mk.injEq] at H
            obtain ⟨rfl, rfl⟩ := H
            go_enter Try.func29, Try.ntmps29
            go_wp2
            go_ret2
            exact ⟨by first | rfl | exact isEmpty_bne_ _ | (simp; done) | (simp [*]; done) | (simp [wrap64]; done), by repeat (first | exact Drawn0.refl _ | apply Drawn0.step)⟩
    · rw [if_neg c4] at H
      have c4b0 : decide (0 < a1) = false := decide_eq_false c4
      clear c4
      by_cases c10 : a0 < 0
      · rw [if_pos c10] at H
        have c10b0 : decide (a0 < 0) = true := decide_eq_true c10
        clear c10
        by_cases c11 : a1 < 0
        · rw [if_pos c11] at H
          have c11b0 : decide (a1 < 0) = true := decide_eq_true c11
          clear c11
          simp only [Option.some.injEq, Prod.mk.injEq] at H
          obtain ⟨rfl, rfl⟩ := H
          go_enter Try.func29, Try.ntmps29
          go_wp2
          go_ret2
          exact ⟨by first | rfl | exact isEmpty_bne_ _ | (simp; done) | (simp [*]; done) | (simp [wrap64]; done), by repeat (first | exact Drawn0.refl _ | apply Drawn0.step)⟩
        · rw [if_neg c11] at H
          have c11b0 : decide (a1 < 0) = false := decide_eq_false c11
          clear c11
          by_cases c12 : (wrap64 (a0 + a1)) ≥ 0
          · rw [if_pos c12] at H
            have c12b0 : decide (0 ≤ (wrap64 (a0 + a1))) = true := decide_eq_true c12
            clear c12
            simp only [Option.some.injEq, Prod.mk.injEq] at H
            obtain ⟨rfl, rfl⟩ := H
            go_enter Try.func29, Try.ntmps29
            go_wp2
            go_ret2
            exact ⟨by first | rfl | exact isEmpty_bne_ _ | (simp; done) | (simp [*]; done) | (simp [wrap64]; done), by repeat (first | exact Drawn0.refl _ | apply Drawn0.step)⟩
          · rw [if_neg c12] at H
            have c12b0 : decide (0 ≤ (wrap64 (a0 + a1))) = false := decide_eq_false c12
            clear c12
            simp only [Option.some.injEq, Prod.mk.injEq] at H
            obtain ⟨rfl, rfl⟩ := H
            go_enter Try.func29, Try.ntmps29
            go_wp2
            go_ret2
            exact ⟨by first | rfl | exact isEmpty_bne_ _ | (simp; done) | (simp [*]; done) | (simp [wrap64]; done), by repeat (first | exact Drawn0.refl _ | apply Drawn0.step)⟩
      · rw [if_neg c10] at H
        have c10b0 : decide (a0 < 0) = false := decide_eq_false c10
        clear c10
        by_cases c13 : (wrap64 (a0 + a1)) ≥ 0
        · rw [if_pos c13] at H
          have c13b0 : decide (0 ≤ (wrap64 (a0 + a1))) = true := decide_eq_true c13
          clear c13
          simp only [Option.some.injEq, Prod.mk.injEq] at H
          obtain ⟨rfl, rfl⟩ := H
          go_enter Try.func29, Try.ntmps29
          go_wp2
          go_ret2
          exact ⟨by first | rfl | exact isEmpty_bne_ _ | (simp; done) | (simp [*]; done) | (simp [wrap64]; done), by repeat (first | exact Drawn0.refl _ | apply Drawn0.step)⟩
        · rw [if_neg c13] at H
          have c13b0 : decide (0 ≤ (wrap64 (a0 + a1))) = false := decide_eq_false c13
          clear c13
          simp only [Option.some.injEq, Prod.mk.injEq] at H
          obtain ⟨rfl, rfl⟩ := H
          go_enter Try.func29, Try.ntmps29
          go_wp2
          go_ret2
          exact ⟨by first | rfl | exact isEmpty_bne_ _ | (simp; done) | (simp [*]; done) | (simp [wrap64]; done), by repeat (first | exact Drawn0.refl _ | apply Drawn0.step)⟩
  · rw [if_neg c3] at H
    have c3b0 : decide (0 < a0) = false := decide_eq_false c3
    clear c3
    by_cases c14 : a0 < 0
    · rw [if_pos c14] at H
      have c14b0 : decide (a0 < 0) = true := decide_eq_true c14
      clear c14
      by_cases c15 : a1 < 0
      · rw [if_pos c15] at H
        have c15b0 : decide (a1 < 0) = true := decide_eq_true c15
        clear c15
        simp only [Option.some.injEq, Prod.mk.injEq] at H
        obtain ⟨rfl, rfl⟩ := H
        go_enter Try.func29, Try.ntmps29
        go_wp2
        go_ret2
        exact ⟨by first | rfl | exact isEmpty_bne_ _ | (simp; done) | (simp [*]; done) | (simp [wrap64]; done), by repeat (first | exact Drawn0.refl _ | apply Drawn0.step)⟩
      · rw [if_neg c15] at H
        have c15b0 : decide (a1 < 0) = false := decide_eq_false c15
        clear c15
        by_cases c16 : (wrap64 (a0 + a1)) ≥ 0
        · rw [if_pos c16] at H
          have c16b0 : decide (0 ≤ (wrap64 (a0 + a1))) = true := decide_eq_true c16
          clear c16
          simp only [Option.some.injEq, Prod.mk.injEq] at H
          obtain ⟨rfl, rfl⟩ := H
          go_enter Try.func29, Try.ntmps29
          go_wp2
          go_ret2
          exact ⟨by first | rfl | exact isEmpty_bne_ _ | (simp; done) | (simp [*]; done) | (simp [wrap64]; done), by repeat (first | exact Drawn0.refl _ | apply Drawn0.step)⟩
        · rw [if_neg c16] at H
          have c16b0 : decide (0 ≤ (wrap64 (a0 + a1))) = false := decide_eq_false c16
          clear c16
          simp only [Option.some.injEq, Prod.mk.injEq] at H
          obtain ⟨rfl, rfl⟩ := H
          go_enter Try.func29, Try.ntmps29
          go_wp2
          go_ret2
          exact ⟨by first | rfl | exact isEmpty_bne_ _ | (simp; done) | (simp [*]; done) | (simp [wrap64]; done), by repeat (first | exact Drawn0.refl _ | apply Drawn0.step)⟩
    · rw [if_neg c14] at H
      have c14b0 : decide (a0 < 0) = false := decide_eq_false c14
      clear c14
      by_cases c17 : (wrap64 (a0 + a1)) ≥ 0
      · rw [if_pos c17] at H
        have c17b0 : decide (0 ≤ (wrap64 (a0 + a1))) = true := decide_eq_true c17
        clear c17
        simp only [Option.some.injEq, Prod.mk.injEq] at H
        obtain ⟨rfl, rfl⟩ := H
        go_enter Try.func29, Try.ntmps29
        go_wp2
        go_ret2
        exact ⟨by first | rfl | exact isEmpty_bne_ _ | (simp; done) | (simp [*]; done) | (simp [wrap64]; done), by repeat (first | exact Drawn0.refl _ | apply Drawn0.step)⟩
      · rw [if_neg c17] at H
        have c17b0 : decide (0 ≤ (wrap64 (a0 + a1))) = false := decide_eq_false c17
        clear c17
        simp only [Option.some.injEq, Prod.mk.injEq] at H
        obtain ⟨rfl, rfl⟩ := H
        go_enter Try.func29, Try.ntmps29
        go_wp2
        go_ret2
        exact ⟨by first | rfl | exact isEmpty_bne_ _ | (simp; done) | (simp [*]; done) | (simp [wrap64]; done), by repeat (first | exact Drawn0.refl _ | apply Drawn0.step)⟩

-- NOT PRINTED: function 7 (handles_New)

end Go.Proofs.Ytgjajdejjiiocaa.Q
