/- get, move, end: by their contracts. -/
import Derived.Test.YtgjajdejjiiocaaH0
namespace Go.Proofs.Ytgjajdejjiiocaa.Q
open Go.RowKit Go.Proofs.YtgjajdejjiiocaaW.PrintWords Go.Proofs.YtgjajdejjiiocaaW.PrintLast Go.Proofs.Ytgjajdejjiiocaa.Sep
set_option linter.unusedVariables false
set_option linter.unusedSimpArgs false
section
variable {w : World} {B t : Nat} {as_ : List (Option Nat)} {S : List (Option Fl)}
theorem get_some (h a : Nat) (hl : h < 32) (hc : w.cell? ⟨t, h, none⟩ = some (.pointer (some ⟨a, 0, none⟩))) : Calls Try.prog 24 #[.pointer (some ⟨t, 0, none⟩), .int .i64 h] w fun e w' => e = .returned (.tuple #[.pointer (some ⟨a, 0, none⟩), .int .i64 0]) ∧ w = w' := by
  go_enter Try.func24, Try.ntmps24
  go_wp2
  go_ret2
  exact ⟨rfl, rfl⟩
theorem get_none (h : Nat) (hl : h < 32) (hc : w.cell? ⟨t, h, none⟩ = some (.pointer none)) : Calls Try.prog 24 #[.pointer (some ⟨t, 0, none⟩), .int .i64 h] w fun e w' => e = .returned (.tuple #[.pointer none, .int .i64 9]) ∧ w = w' := by
  go_enter Try.func24, Try.ntmps24
  go_wp2
  go_ret2
  exact ⟨rfl, rfl⟩
theorem get_out (h : Int) (hl : h < 0 ∨ 32 ≤ h) : Calls Try.prog 24 #[.pointer (some ⟨t, 0, none⟩), .int .i64 h] w fun e w' => e = .returned (.tuple #[.pointer none, .int .i64 9]) ∧ w = w' := by
  rcases hl with hl | hl
  · go_enter Try.func24, Try.ntmps24
    go_wp2
    go_ret2
    exact ⟨rfl, rfl⟩
  · have h0 : ¬ h < 0 := by omega
    go_enter Try.func24, Try.ntmps24
    go_wp2
    go_ret2
    exact ⟨rfl, rfl⟩
theorem get_nil (h : Int) : Calls Try.prog 24 #[.pointer none, .int .i64 h] w fun e w' => e = .returned (.tuple #[.pointer none, .int .i64 14]) ∧ w = w' := by
  go_enter Try.func24, Try.ntmps24
  go_wp2
  go_ret2
  exact ⟨rfl, rfl⟩
/-- An offset that may be. -/
def okO (n : Int) : Bool := decide (0 ≤ n) && decide (n ≤ 16384)
theorem move_ok (a : Nat) (f : Fl) (o n : Int) (hc : w.heap[a]? = some (Cl (fcells f) 44)) (h0 : 0 ≤ o ∧ o ≤ 16384) (hn : 0 ≤ o + n ∧ o + n ≤ 16384) : Calls Try.prog 28 #[.pointer (some ⟨a, 0, none⟩), .int .i64 o, .int .i64 n] w fun e w' => e = .returned (.tuple #[.int .i64 (o + n), .int .i64 0]) ∧ w.setCell ⟨a, 2, none⟩ (.int .i64 (o + n)) = w' := by
  have hc2 : w.cell? ⟨a, 2, none⟩ = some (.int .i64 f.2.2) := cell_of hc rfl
  have hf2 := frozen_of hc 2
  have hs : (w.setCell ⟨a, 2, none⟩ (.int .i64 (o + n))).cell? ⟨a, 2, none⟩ = some (.int .i64 (o + n)) := cell_of (heap_set _ hc) rfl
  obtain ⟨h0, h1⟩ := h0
  obtain ⟨h2, h3⟩ := hn
  have g1 : ¬ o < 0 := by omega
  have g2 : ¬ n < -o := by omega
  have g3 : ¬ n > 16384 - o := by omega
  clear hc
  go_enter Try.func28, Try.ntmps28
  go_wp2
  go_ret2
  exact ⟨rfl, rfl⟩
theorem move_no (a : Nat) (o n : Int) (h0 : 0 ≤ o ∧ o ≤ 16384) (hn : ¬ (0 ≤ o + n ∧ o + n ≤ 16384)) : Calls Try.prog 28 #[.pointer (some ⟨a, 0, none⟩), .int .i64 o, .int .i64 n] w fun e w' => e = .returned (.tuple #[.int .i64 0, .int .i64 22]) ∧ w = w' := by
  obtain ⟨h0, h1⟩ := h0
  have g1 : ¬ o < 0 := by omega
  by_cases g2 : n < -o
  · clear hn
    go_enter Try.func28, Try.ntmps28
    go_wp2
    go_ret2
    exact ⟨rfl, rfl⟩
  · have g3 : n > 16384 - o := by omega
    clear hn
    go_enter Try.func28, Try.ntmps28
    go_wp2
    go_ret2
    exact ⟨rfl, rfl⟩
theorem end_ok (a : Nat) (f : Fl) (n z : Int) (hc : w.heap[a]? = some (Cl (fcells f) 44)) (hn : 0 ≤ n + z ∧ n + z ≤ 16384) : Calls Try.prog 27 #[.pointer (some ⟨a, 0, none⟩), .int .i64 n, .int .i64 z] w fun e w' => e = .returned (.tuple #[.int .i64 (n + z), .int .i64 0]) ∧ w.setCell ⟨a, 2, none⟩ (.int .i64 (n + z)) = w' := by
  have hc2 : w.cell? ⟨a, 2, none⟩ = some (.int .i64 f.2.2) := cell_of hc rfl
  have hf2 := frozen_of hc 2
  have hs : (w.setCell ⟨a, 2, none⟩ (.int .i64 (n + z))).cell? ⟨a, 2, none⟩ = some (.int .i64 (n + z)) := cell_of (heap_set _ hc) rfl
  obtain ⟨h2, h3⟩ := hn
  clear hc
  rcases Int.lt_trichotomy n z with hz | hz | hz
  rotate_left
  · subst hz
    go_enter Try.func27, Try.ntmps27
    go_wp2
    all_goals first
      | (exfalso; omega)
      | (go_ret2; exact ⟨rfl, rfl⟩)
  all_goals
    go_enter Try.func27, Try.ntmps27
    go_wp2
    all_goals first
      | (exfalso; omega)
      | (go_ret2; exact ⟨rfl, rfl⟩)
      | (rw [Int.add_comm z n]; go_ret2; exact ⟨rfl, rfl⟩)
set_option maxHeartbeats 4000000 in
theorem end_no (a : Nat) (n z : Int) (hn1 : -9223372036854775808 ≤ n ∧ n ≤ 9223372036854775807) (hz : -9223372036854775808 ≤ z ∧ z ≤ 9223372036854775807) (hn : ¬ (0 ≤ n + z ∧ n + z ≤ 16384)) : Calls Try.prog 27 #[.pointer (some ⟨a, 0, none⟩), .int .i64 n, .int .i64 z] w fun e w' => e = .returned (.tuple #[.int .i64 0, .int .i64 22]) ∧ w = w' := by
  obtain ⟨hn1, hn2⟩ := hn1
  obtain ⟨hz1, hz2⟩ := hz
  have HN := Aside0.mk hn
  clear hn
  go_enter Try.func27, Try.ntmps27
  go_wp2
  all_goals first
    | (exfalso; have := HN.out; omega)
    | (go_ret2; exact ⟨rfl, rfl⟩)
end
end Go.Proofs.Ytgjajdejjiiocaa.Q
