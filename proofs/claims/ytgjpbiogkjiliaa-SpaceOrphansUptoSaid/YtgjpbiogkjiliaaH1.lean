/- nand.Right answers what its conditions say, whatever the geometry; nothing that was there is written. No condition. -/
import Derived.Test.YtgjpbiogkjiliaaQ0
namespace Go.Proofs.Ytgjpbiogkjiliaa.Q
open Go.RowKit Go.Proofs.YtgjpbiogkjiliaaW.PrintWords Go.Proofs.YtgjpbiogkjiliaaW.PrintLast Go.Proofs.YtgjpbiogkjiliaaW.PrintMore
set_option linter.unusedVariables false
set_option linter.unusedSimpArgs false

def powB (n : Int) : Bool := if 0 < n then Go.bits .and .i64 n (wrap64 (n - 1)) == 0 else false

theorem powB_pos {n : Int} (h : 0 < n) : powB n = (Go.bits .and .i64 n (wrap64 (n - 1)) == 0) := if_pos h
theorem powB_neg {n : Int} (h : ¬ 0 < n) : powB n = false := if_neg h

set_option maxHeartbeats 400000 in
theorem pow_calls (n : Int) (w : World) : Calls Try.prog 37 #[.int .i64 n] w fun e w' => e = .returned (.bool (powB n)) ∧ w = w' := by
  by_cases h : 0 < n
  · rw [powB_pos h]
    have h1 : decide (0 < n) = true := decide_eq_true h
    clear h
    go_enter Try.func37, Try.ntmps37
    go_wp2
    go_ret
    exact ⟨rfl, rfl⟩
  · rw [powB_neg h]
    have h1 : decide (0 < n) = false := decide_eq_false h
    clear h
    go_enter Try.func37, Try.ntmps37
    go_wp2
    go_ret
    exact ⟨rfl, rfl⟩

def nand_Right.f (a b c d : Int) : Option Bool :=
  if 16 ≤ a then if a ≤ 256 then if 8 ≤ b then if b ≤ 64 then if powB b = true then if 64 ≤ c then if c ≤ 512 then if powB c = true then
    if 1536 ≤ wrap64 ((b - 2) * c) then if 0 ≤ d then some (decide (d ≤ a / 4))
    else some false else some false else some false else some false else some false else some false else some false else some false else some false else some false

set_option maxHeartbeats 4000000 in
set_option maxRecDepth 100000 in
theorem nand_Right.calls (a b c d : Int) (r : Bool) (w : World) (h : nand_Right.f a b c d = some r) :
    Calls Try.prog 19 #[.agg #[.int .i64 a, .int .i64 b, .int .i64 c, .int .i64 d]] w fun e w' => e = .returned (.bool r) ∧ Below w.heap.size w w' := by
  have hu := Try.underlying23
  unfold nand_Right.f at h
  by_cases c0 : 16 ≤ a
  · rw [if_pos c0] at h
    have k0 : decide (16 ≤ a) = true := decide_eq_true c0
    by_cases c1 : a ≤ 256
    · rw [if_pos c1] at h
      have k1 : decide (a ≤ 256) = true := decide_eq_true c1
      by_cases c2 : 8 ≤ b
      · rw [if_pos c2] at h
        have k2 : decide (8 ≤ b) = true := decide_eq_true c2
        by_cases c3 : b ≤ 64
        · rw [if_pos c3] at h
          have k3 : decide (b ≤ 64) = true := decide_eq_true c3
          by_cases c4 : powB b = true
          · rw [if_pos c4] at h
            by_cases c5 : 64 ≤ c
            · rw [if_pos c5] at h
              have k5 : decide (64 ≤ c) = true := decide_eq_true c5
              by_cases c6 : c ≤ 512
              · rw [if_pos c6] at h
                have k6 : decide (c ≤ 512) = true := decide_eq_true c6
                by_cases c7 : powB c = true
                · rw [if_pos c7] at h
                  by_cases c8 : 1536 ≤ wrap64 ((b - 2) * c)
                  · rw [if_pos c8] at h
                    have k8 : decide (1536 ≤ wrap64 ((b - 2) * c)) = true := decide_eq_true c8
                    clear c8
                    by_cases c9 : 0 ≤ d
                    · rw [if_pos c9] at h
                      have k9 : decide (0 ≤ d) = true := decide_eq_true c9
                      clear c9
                      cases h
                      go_enter Try.func19, Try.ntmps19
                      go_wp2_with (go_at_call 37; refine (pow_calls _ _).mono ?_; rintro e w' ⟨rfl, rfl⟩)
                      go_ret
                      exact ⟨rfl, (Below.refl _ _).alloc (Nat.le_refl _) _⟩
                    · rw [if_neg c9] at h
                      have k9 : decide (0 ≤ d) = false := decide_eq_false c9
                      clear c9
                      cases h
                      go_enter Try.func19, Try.ntmps19
                      go_wp2_with (go_at_call 37; refine (pow_calls _ _).mono ?_; rintro e w' ⟨rfl, rfl⟩)
                      go_ret
                      exact ⟨rfl, (Below.refl _ _).alloc (Nat.le_refl _) _⟩
                  · rw [if_neg c8] at h
                    have k8 : decide (1536 ≤ wrap64 ((b - 2) * c)) = false := decide_eq_false c8
                    clear c8
                    cases h
                    go_enter Try.func19, Try.ntmps19
                    go_wp2_with (go_at_call 37; refine (pow_calls _ _).mono ?_; rintro e w' ⟨rfl, rfl⟩)
                    go_ret
                    exact ⟨rfl, (Below.refl _ _).alloc (Nat.le_refl _) _⟩
                · rw [if_neg c7] at h
                  have k7 : powB c = false := by simpa using c7
                  clear c7
                  cases h
                  go_enter Try.func19, Try.ntmps19
                  go_wp2_with (go_at_call 37; refine (pow_calls _ _).mono ?_; rintro e w' ⟨rfl, rfl⟩)
                  go_ret
                  exact ⟨rfl, (Below.refl _ _).alloc (Nat.le_refl _) _⟩
              · rw [if_neg c6] at h
                have k6 : decide (c ≤ 512) = false := decide_eq_false c6
                clear c6
                cases h
                go_enter Try.func19, Try.ntmps19
                go_wp2_with (go_at_call 37; refine (pow_calls _ _).mono ?_; rintro e w' ⟨rfl, rfl⟩)
                go_ret
                exact ⟨rfl, (Below.refl _ _).alloc (Nat.le_refl _) _⟩
            · rw [if_neg c5] at h
              have k5 : decide (64 ≤ c) = false := decide_eq_false c5
              clear c5
              cases h
              go_enter Try.func19, Try.ntmps19
              go_wp2_with (go_at_call 37; refine (pow_calls _ _).mono ?_; rintro e w' ⟨rfl, rfl⟩)
              go_ret
              exact ⟨rfl, (Below.refl _ _).alloc (Nat.le_refl _) _⟩
          · rw [if_neg c4] at h
            have k4 : powB b = false := by simpa using c4
            clear c4
            cases h
            go_enter Try.func19, Try.ntmps19
            go_wp2_with (go_at_call 37; refine (pow_calls _ _).mono ?_; rintro e w' ⟨rfl, rfl⟩)
            go_ret
            exact ⟨rfl, (Below.refl _ _).alloc (Nat.le_refl _) _⟩
        · rw [if_neg c3] at h
          have k3 : decide (b ≤ 64) = false := decide_eq_false c3
          clear c3
          cases h
          go_enter Try.func19, Try.ntmps19
          go_wp2_with (go_at_call 37; refine (pow_calls _ _).mono ?_; rintro e w' ⟨rfl, rfl⟩)
          go_ret
          exact ⟨rfl, (Below.refl _ _).alloc (Nat.le_refl _) _⟩
      · rw [if_neg c2] at h
        have k2 : decide (8 ≤ b) = false := decide_eq_false c2
        clear c2
        cases h
        go_enter Try.func19, Try.ntmps19
        go_wp2_with (go_at_call 37; refine (pow_calls _ _).mono ?_; rintro e w' ⟨rfl, rfl⟩)
        go_ret
        exact ⟨rfl, (Below.refl _ _).alloc (Nat.le_refl _) _⟩
    · rw [if_neg c1] at h
      have k1 : decide (a ≤ 256) = false := decide_eq_false c1
      clear c1
      cases h
      go_enter Try.func19, Try.ntmps19
      go_wp2_with (go_at_call 37; refine (pow_calls _ _).mono ?_; rintro e w' ⟨rfl, rfl⟩)
      go_ret
      exact ⟨rfl, (Below.refl _ _).alloc (Nat.le_refl _) _⟩
  · rw [if_neg c0] at h
    have k0 : decide (16 ≤ a) = false := decide_eq_false c0
    clear c0
    cases h
    go_enter Try.func19, Try.ntmps19
    go_wp2_with (go_at_call 37; refine (pow_calls _ _).mono ?_; rintro e w' ⟨rfl, rfl⟩)
    go_ret
    exact ⟨rfl, (Below.refl _ _).alloc (Nat.le_refl _) _⟩

end Go.Proofs.Ytgjpbiogkjiliaa.Q
