/- perm.Flags, and the document's. -/
import Derived.Test.YtgjajdejjiiocaaH0
namespace Go.Proofs.Ytgjajdejjiiocaa.Q
open Go.RowKit Go.Proofs.YtgjajdejjiiocaaW.PrintWords Go.Proofs.YtgjajdejjiiocaaW.PrintLast Go.Proofs.Ytgjajdejjiiocaa.Sep
set_option linter.unusedVariables false
set_option linter.unusedSimpArgs false
/-- The answer of Flags. -/
def flagsE (a : Int) : Int := (pumiceref21_Flags.f a).getD 0
theorem flags_two (a : Int) : pumiceref21_Flags.f a = some 0 ∨ pumiceref21_Flags.f a = some 22 := by
  unfold pumiceref21_Flags.f
  repeat (first | exact .inl rfl | exact .inr rfl | split)
theorem flags_f (a : Int) : pumiceref21_Flags.f a = some (flagsE a) := by
  unfold flagsE
  rcases flags_two a with h | h <;> rw [h] <;> rfl
theorem flags_e (a : Int) : flagsE a = 0 ∨ flagsE a = 22 := by
  unfold flagsE
  rcases flags_two a with h | h <;> rw [h]
  · exact .inl rfl
  · exact .inr rfl
def hasB (v n : Int) : Bool := decide (Go.bits .and .i64 v n > 0)
theorem has_calls (v n : Int) (b : Nat) (w : World) (hc : w.cell? ⟨b, 0, none⟩ = some (.int .i64 v)) : Calls Try.prog 31 #[.int .i64 n, .pointer (some ⟨b, 0, none⟩)] w fun e w' => e = .returned (.bool (hasB v n)) ∧ w = w' := by
  go_enter Try.func31, Try.ntmps31
  go_wp2
  go_ret
  exact ⟨rfl, rfl⟩
theorem and_nonneg (v : Int) (b : Nat) (hb : b < 1000) : 0 ≤ Go.bits .and .i64 v (b : Int) := by
  have h : (BitVec.ofInt 64 v &&& BitVec.ofInt 64 (b : Int)).toNat ≤ b := by
    rw [BitVec.toNat_and]
    refine Nat.le_trans Nat.and_le_right ?_
    rw [BitVec.ofInt_natCast, BitVec.toNat_ofNat]
    exact Nat.mod_le _ _
  show 0 ≤ IntKind.i64.wrap (((BitVec.ofInt 64 v &&& BitVec.ofInt 64 (b : Int)).toNat : Nat) : Int)
  rw [IntKind.wrap_i64]
  omega
theorem has_iff (v : Int) (b : Nat) (hb : b < 1000) : hasB v (b : Int) = !decide (Go.bits .and .i64 v (b : Int) = 0) := by
  have := and_nonneg v b hb
  unfold hasB
  rw [← decide_not]
  exact decide_eq_decide.2 (by omega)
theorem flags_eq (v : Int) : flagsE v = if Go.bits .andNot .i64 v 63 = 0 then (if hasB v 3 = false then 22 else if hasB v 8 = true ∧ hasB v 4 = false then 22 else if hasB v 48 = true ∧ hasB v 2 = false then 22 else 0) else 22 := by
  have h3 : hasB v 3 = !decide (Go.bits .and .i64 v 3 = 0) := has_iff v 3 (by decide)
  have h8 : hasB v 8 = !decide (Go.bits .and .i64 v 8 = 0) := has_iff v 8 (by decide)
  have h4 : hasB v 4 = !decide (Go.bits .and .i64 v 4 = 0) := has_iff v 4 (by decide)
  have h48 : hasB v 48 = !decide (Go.bits .and .i64 v 48 = 0) := has_iff v 48 (by decide)
  have h2 : hasB v 2 = !decide (Go.bits .and .i64 v 2 = 0) := has_iff v 2 (by decide)
  rw [h3, h8, h4, h48, h2]
  unfold flagsE pumiceref21_Flags.f
  by_cases a0 : Go.bits .andNot .i64 v 63 = 0 <;> by_cases a1 : Go.bits .and .i64 v 3 = 0 <;> by_cases a2 : Go.bits .and .i64 v 8 = 0 <;> by_cases a3 : Go.bits .and .i64 v 4 = 0 <;> by_cases a4 : Go.bits .and .i64 v 48 = 0 <;> by_cases a5 : Go.bits .and .i64 v 2 = 0 <;> simp [a0, a1, a2, a3, a4, a5]
set_option maxHeartbeats 1000000 in
theorem flags_calls (v : Int) (w : World) : Calls Try.prog 23 #[.int .i64 v] w fun e w' => e = .returned (.int .i64 (flagsE v)) ∧ Below w.heap.size w w' := by
  have hB : Below w.heap.size w (w.alloc (.cells #[.int .i64 v] 3)) := (Below.refl _ _).alloc (Nat.le_refl _) _
  have HE := Aside0.mk (flags_eq v)
  go_enter Try.func23, Try.ntmps23
  by_cases h0 : Go.bits .andNot .i64 v 63 = 0
  · go_wp2_with (go_at_call 31; (with_reducible refine (has_calls v _ _ _ (by simp)).mono ?_); rintro e w' ⟨rfl, rfl⟩)
    all_goals (go_ret; refine ⟨?_, hB⟩; rw [HE.out]; simp [*])
    all_goals (rename_i h; simpa using h)
  · go_wp2_with fail
    go_ret
    refine ⟨?_, hB⟩
    rw [HE.out]
    simp [*]
end Go.Proofs.Ytgjajdejjiiocaa.Q
