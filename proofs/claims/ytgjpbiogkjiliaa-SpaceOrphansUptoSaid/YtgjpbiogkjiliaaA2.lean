/- Plain laws for pumicelaw16: any geometry has the document's numbers; each chip that may be holds a root, and a file with a block in it. No program. -/
import Derived.Test.YtgjpbiogkjiliaaA1
import Derived.Test.YtgjpbiogkjiliaaQ5
namespace Go.Proofs.Ytgjpbiogkjiliaa.Q
open Go.RowKit Go.Proofs.YtgjpbiogkjiliaaW.PrintWords Go.Proofs.YtgjpbiogkjiliaaW.PrintLast Go.Proofs.YtgjpbiogkjiliaaW.PrintMore

theorem alive_true : pumicelaw16_alive.f = some true := by decide +kernel

theorem SpaceChips_pure (a b c d : Int) : pumicelaw16_SpaceChips.f 20 a b c d = some true := by
  obtain ⟨r1, h1⟩ := Lebs_some a b c d
  obtain ⟨r2, h2⟩ := Bytes_some a b c d
  obtain ⟨r3, h3⟩ := Limit_some a b c d
  obtain ⟨r4, h4⟩ := Most_some a b c d
  unfold pumicelaw16_SpaceChips.f
  rw [Lebs_ref, Bytes_ref, Limit_ref, Most_ref, h1, h2, h3, h4, alive_true]
  simp

theorem mul_lo {x y p q : Int} (h0 : 0 ≤ p) (h1 : 0 ≤ q) (hx : p ≤ x) (hy : q ≤ y) : p * q ≤ x * y := Int.mul_le_mul hx hy h1 (by omega)

theorem inode_83 : space_Inode.f = some 83 := by decide +kernel
theorem entry_long : space_Entry.f (⟨#[97, 32, 102, 105, 108, 101, 32, 119, 105, 116, 104, 32, 97, 32, 108, 111, 110, 103, 101, 115, 116, 32, 110, 97, 109, 101]⟩ : ByteArray) = some 125 := by decide +kernel
theorem file_unit : space_File.f 128 = some 202 := by decide +kernel

theorem SpaceLeast_pure (a b c d : Int) : pumicelaw16_SpaceLeast.f a b c d = some true := by
  obtain ⟨r, h⟩ := Right_some a b c d
  unfold pumicelaw16_SpaceLeast.f
  rw [h]
  simp only [Option.bind_some]
  cases r with
  | false =>
    rw [if_neg (by simp)]
    unfold space_Limit.f space_Lebs.f space_Bytes.f space_Most.f
    rw [h, alive_true]
    simp
  | true =>
    rw [if_pos rfl]
    have hr := h
    unfold nand_Right.f at h
    by_cases c1 : 16 ≤ a
    case neg => rw [if_neg c1] at h; cases h
    rw [if_pos c1] at h
    by_cases c2 : a ≤ 256
    case neg => rw [if_neg c2] at h; cases h
    rw [if_pos c2] at h
    by_cases c3 : 8 ≤ b
    case neg => rw [if_neg c3] at h; cases h
    rw [if_pos c3] at h
    by_cases c4 : b ≤ 64
    case neg => rw [if_neg c4] at h; cases h
    rw [if_pos c4] at h
    by_cases c5 : powB b = true
    case neg => rw [if_neg c5] at h; cases h
    rw [if_pos c5] at h
    by_cases c6 : 64 ≤ c
    case neg => rw [if_neg c6] at h; cases h
    rw [if_pos c6] at h
    by_cases c7 : c ≤ 512
    case neg => rw [if_neg c7] at h; cases h
    rw [if_pos c7] at h
    by_cases c8 : powB c = true
    case neg => rw [if_neg c8] at h; cases h
    rw [if_pos c8] at h
    by_cases c9 : 1536 ≤ wrap64 ((b - 2) * c)
    case neg => rw [if_neg c9] at h; cases h
    rw [if_pos c9] at h
    by_cases c10 : 0 ≤ d
    case neg => rw [if_neg c10] at h; cases h
    rw [if_pos c10] at h
    have c11 : d ≤ a / 4 := by simpa using h
    clear h
    have m0 : 0 ≤ (b - 2) * c := Int.mul_nonneg (by omega) (by omega)
    have m1 : (b - 2) * c ≤ 62 * 512 := Int.mul_le_mul (by omega) c7 (by omega) (by omega)
    have w1 : wrap64 ((b - 2) * c) = (b - 2) * c := by unfold wrap64; omega
    rw [w1] at c9
    have hL : space_Lebs.f a b c d = some (a - d - 2) := by
      unfold space_Lebs.f
      rw [hr]
      simp only [Option.bind_some, if_true]
      refine congrArg some ?_
      unfold wrap64
      omega
    have hB : space_Bytes.f a b c d = some ((b - 2) * c) := by
      unfold space_Bytes.f
      rw [hr]
      simp only [Option.bind_some, if_true]
      rw [show wrap64 (b - 2) = b - 2 from by unfold wrap64; omega, w1]
    have hM : space_Most.f a b c d = some (8 * a * b) := by
      unfold space_Most.f
      rw [hr]
      simp only [Option.bind_some, if_true]
      have e0 : 0 ≤ 8 * a * b := Int.mul_nonneg (by omega) (by omega)
      have e1 : 8 * a * b ≤ 8 * 256 * 64 := Int.mul_le_mul (by omega) c4 (by omega) (by omega)
      rw [show wrap64 (8 * a) = 8 * a from by unfold wrap64; omega, show wrap64 (8 * a * b) = 8 * a * b from by unfold wrap64; omega]
    have t0 : 0 ≤ (a - d - 2 - 5) / 2 := by omega
    have t1 : (a - d - 2 - 5) / 2 ≤ 128 := by omega
    have u0 : 768 ≤ (b - 2) * c / 2 := by omega
    have u1 : (b - 2) * c / 2 ≤ 16384 := by omega
    have v0 : 0 ≤ ((a - d - 2 - 5) / 2) * ((b - 2) * c / 2) := Int.mul_nonneg t0 (by omega)
    have v1 : ((a - d - 2 - 5) / 2) * ((b - 2) * c / 2) ≤ 128 * 16384 := Int.mul_le_mul t1 u1 (by omega) (by omega)
    have v2 : 2 * 768 ≤ ((a - d - 2 - 5) / 2) * ((b - 2) * c / 2) := mul_lo (by omega) (by omega) (by omega) u0
    have hLim : space_Limit.f a b c d = some (((a - d - 2 - 5) / 2) * ((b - 2) * c / 2)) := by
      unfold space_Limit.f
      rw [hr, hL, hB]
      simp only [Option.bind_some, if_true]
      rw [show wrap64 (a - d - 2 - 5) = a - d - 2 - 5 from by unfold wrap64; omega, Int.tdiv_eq_ediv_of_nonneg (by omega), Int.tdiv_eq_ediv_of_nonneg (by omega),
        show wrap64 ((a - d - 2 - 5) / 2) = (a - d - 2 - 5) / 2 from by unfold wrap64; omega, show wrap64 ((b - 2) * c / 2) = (b - 2) * c / 2 from by unfold wrap64; omega]
      refine congrArg some ?_
      generalize ((a - d - 2 - 5) / 2) * ((b - 2) * c / 2) = z at v0 v1 ⊢
      unfold wrap64
      omega
    have ab0 : 0 ≤ a * b := Int.mul_nonneg (by omega) (by omega)
    have ab1 : a * b ≤ 256 * 64 := Int.mul_le_mul c2 c4 (by omega) (by omega)
    have ab2 : 16 * 8 ≤ a * b := mul_lo (by omega) (by omega) c1 c3
    have abc0 : 0 ≤ a * b * c := Int.mul_nonneg ab0 (by omega)
    have abc1 : a * b * c ≤ 256 * 64 * 512 := Int.mul_le_mul ab1 c7 (by omega) (by omega)
    have hle : ((a - d - 2 - 5) / 2) * ((b - 2) * c / 2) ≤ a * b * c := by
      have e1 : ((a - d - 2 - 5) / 2) * ((b - 2) * c / 2) ≤ a * (b * c) := by
        refine Int.mul_le_mul (by omega) ?_ (by omega) (by omega)
        have e2 : (b - 2) * c = b * c - 2 * c := Int.sub_mul _ _ _
        have e3 : 0 ≤ b * c := Int.mul_nonneg (by omega) (by omega)
        omega
      rw [Int.mul_assoc]
      exact e1
    rw [hLim, hL, hB, hM, inode_83, entry_long, file_unit, alive_true]
    simp only [Option.bind_some]
    rw [show wrap64 (a * b) = a * b from by unfold wrap64; omega, show wrap64 (a * b * c) = a * b * c from by unfold wrap64; omega]
    rw [if_pos (by generalize ((a - d - 2 - 5) / 2) * ((b - 2) * c / 2) = z at v2 ⊢; unfold wrap64; omega), if_pos hle, if_pos (by omega), if_pos c9]
    rw [if_pos]
    have e8 : 8 * a * b = 8 * (a * b) := Int.mul_assoc _ _ _
    rw [e8]
    omega

end Go.Proofs.Ytgjpbiogkjiliaa.Q
