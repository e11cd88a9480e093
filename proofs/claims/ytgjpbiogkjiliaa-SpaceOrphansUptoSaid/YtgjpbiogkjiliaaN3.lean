/- bits.Put at 1, 2, 4 and 8 bytes. -/
import Derived.Test.YtgjpbiogkjiliaaQ0
namespace Go.Proofs.Ytgjpbiogkjiliaa.Q
open Go.RowKit Go.Proofs.YtgjpbiogkjiliaaW.PrintWords Go.Proofs.YtgjpbiogkjiliaaW.PrintLast Go.Proofs.YtgjpbiogkjiliaaW.PrintMore
attribute [local go_sem] max2_int min2_int max_two min_two max_three min_three max_four min_four
set_option linter.unusedVariables false
set_option linter.unusedSimpArgs false

/-- n as so many bytes, the lowest first. -/
def leBytes (n : Int) : Nat → List Int
  | 0 => []
  | k + 1 => n % 256 :: leBytes (n / 256) k
def bits_Put.f (a0 : Int) (a1 : Int) : Option (List Int) :=
  if a1 = 1 then some (leBytes a0 1) else if a1 = 2 then some (leBytes a0 2) else if a1 = 4 then some (leBytes a0 4) else if a1 = 8 then some (leBytes a0 8) else none

theorem fresh_row (w : World) (xs : List Int) (hm : xs.length ≤ 9223372036854775807) : Kd.R (Kd.int .u8) 5 (w.alloc (.cells (encs (Value.int .u8) xs).toArray 5)) w.heap.size (fun _ => True) (.slice (some ⟨w.heap.size, 0, none⟩) xs.length xs.length) xs := by
  have h2 := World.ownsRow_lit (base := w.heap.size) (e := 5) (size := 1) w (encs (Value.int .u8) xs).toArray xs.length (Nat.le_refl _) (by simpa [maxLen] using hm) (by simp [encs])
  have h3 : (w.alloc (.cells (encs (Value.int .u8) xs).toArray 5)).ownsRow w.heap.size 5 1 (.slice (some ⟨w.heap.size, 0, none⟩) xs.length xs.length) xs.length (encs (Value.int .u8) xs) := by simpa using h2
  exact ⟨fun k hk => trivial, encs (Value.int .u8) xs, h3, Kd.reps_scalar xs⟩
theorem made (w : World) (m : Nat) (hm : m ≤ 8) : (Instr.makeSlice 58 (.int .i64 m) (.int .i64 m)).run Try.prog w = .ok (.slice (some ⟨w.heap.size, 0, none⟩) m m) (w.alloc (.cells (Array.replicate m (.int .u8 0)) 5)) := by
  obtain ⟨i0, hi, hzz⟩ := Option.map_eq_some_iff.1 info5
  simp only [Prod.mk.injEq] at hzz
  obtain ⟨hz0, hz1, hz2⟩ := hzz
  have hr := run_make (P := Try.prog) w 58 5 i0 (.int .u8 0) Try.underlying58 hi hz0 .i64 .i64 (m : Int) (m : Int) (by omega) (by omega) (by rw [hz2]; omega) (by omega)
  rw [hr, hz1]
  simp only [Int.toNat_natCast, Nat.mul_one]
  have : madeCells (Value.int .u8 0).cells m = Array.replicate m (.int .u8 0) := by
    rw [← Array.toList_inj, show (Value.int IntKind.u8 0).cells = #[Value.int .u8 0] from by simp [Value.cells], toList_madeCells_one, Array.toList_replicate]
  rw [this]

set_option maxHeartbeats 8000000 in
set_option maxRecDepth 100000 in
theorem bits_Put_1 (a0 : Int) (w : World) :
    Calls Try.prog 57 #[.int .u64 a0, .int .i64 1] w fun e w' => ∃ v0_ : Value, e = .returned (v0_) ∧ Kd.R (Kd.int .u8) 5 w' w.heap.size (fun _ => True) v0_ (leBytes a0 1) ∧ Below w.heap.size w w' := by
  have hmk := made w 1 (by omega)
  simp only [Int.cast_ofNat_Int] at hmk
  go_enter Try.func57, Try.ntmps57
  go_wp2
  go_ret
  refine ⟨_, rfl, ?_, (Below.refl _ _).alloc (Nat.le_refl _) _⟩
  have := fresh_row w (leBytes a0 1) (by simp [leBytes])
  simp [leBytes, Int.ediv_ediv_of_nonneg] at this ⊢
  exact this
set_option maxHeartbeats 8000000 in
set_option maxRecDepth 100000 in
theorem bits_Put_2 (a0 : Int) (w : World) :
    Calls Try.prog 57 #[.int .u64 a0, .int .i64 2] w fun e w' => ∃ v0_ : Value, e = .returned (v0_) ∧ Kd.R (Kd.int .u8) 5 w' w.heap.size (fun _ => True) v0_ (leBytes a0 2) ∧ Below w.heap.size w w' := by
  have hmk := made w 2 (by omega)
  simp only [Int.cast_ofNat_Int] at hmk
  go_enter Try.func57, Try.ntmps57
  go_wp2
  go_ret
  refine ⟨_, rfl, ?_, (Below.refl _ _).alloc (Nat.le_refl _) _⟩
  have := fresh_row w (leBytes a0 2) (by simp [leBytes])
  simp [leBytes, Int.ediv_ediv_of_nonneg] at this ⊢
  exact this
set_option maxHeartbeats 8000000 in
set_option maxRecDepth 100000 in
theorem bits_Put_4 (a0 : Int) (w : World) :
    Calls Try.prog 57 #[.int .u64 a0, .int .i64 4] w fun e w' => ∃ v0_ : Value, e = .returned (v0_) ∧ Kd.R (Kd.int .u8) 5 w' w.heap.size (fun _ => True) v0_ (leBytes a0 4) ∧ Below w.heap.size w w' := by
  have hmk := made w 4 (by omega)
  simp only [Int.cast_ofNat_Int] at hmk
  go_enter Try.func57, Try.ntmps57
  go_wp2
  go_ret
  refine ⟨_, rfl, ?_, (Below.refl _ _).alloc (Nat.le_refl _) _⟩
  have := fresh_row w (leBytes a0 4) (by simp [leBytes])
  simp [leBytes, Int.ediv_ediv_of_nonneg] at this ⊢
  exact this
set_option maxHeartbeats 8000000 in
set_option maxRecDepth 100000 in
theorem bits_Put_8 (a0 : Int) (w : World) :
    Calls Try.prog 57 #[.int .u64 a0, .int .i64 8] w fun e w' => ∃ v0_ : Value, e = .returned (v0_) ∧ Kd.R (Kd.int .u8) 5 w' w.heap.size (fun _ => True) v0_ (leBytes a0 8) ∧ Below w.heap.size w w' := by
  have hmk := made w 8 (by omega)
  simp only [Int.cast_ofNat_Int] at hmk
  go_enter Try.func57, Try.ntmps57
  go_wp2
  go_ret
  refine ⟨_, rfl, ?_, (Below.refl _ _).alloc (Nat.le_refl _) _⟩
  have := fresh_row w (leBytes a0 8) (by simp [leBytes])
  simp [leBytes, Int.ediv_ediv_of_nonneg] at this ⊢
  exact this
theorem bits_Put.calls (a0 : Int) (a1 : Int) (r : List Int) (w : World) (h : bits_Put.f a0 a1 = some r) :
    Calls Try.prog 57 #[.int .u64 a0, .int .i64 a1] w fun e w' => ∃ v0_ : Value, e = .returned (v0_) ∧ Kd.R (Kd.int .u8) 5 w' w.heap.size (fun _ => True) v0_ r ∧ Below w.heap.size w w' := by
  unfold bits_Put.f at h
  split at h
  · subst a1; cases h; exact bits_Put_1 a0 w
  split at h
  · subst a1; cases h; exact bits_Put_2 a0 w
  split at h
  · subst a1; cases h; exact bits_Put_4 a0 w
  split at h
  · subst a1; cases h; exact bits_Put_8 a0 w
  cases h
end Go.Proofs.Ytgjpbiogkjiliaa.Q
