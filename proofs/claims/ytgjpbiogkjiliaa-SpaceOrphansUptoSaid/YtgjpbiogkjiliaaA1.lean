/- Plain laws for pumicelaw16: a right geometry is one by the document, too. No program. -/
import Derived.Test.YtgjpbiogkjiliaaQ2
namespace Go.Proofs.Ytgjpbiogkjiliaa.Q
open Go.RowKit Go.Proofs.YtgjpbiogkjiliaaW.PrintWords Go.Proofs.YtgjpbiogkjiliaaW.PrintLast Go.Proofs.YtgjpbiogkjiliaaW.PrintMore

theorem pow_fin : ∀ n : Fin 513, 1 ≤ n.val → pumiceref03_power.f 20 (n.val : Int) = some (powB (n.val : Int)) := by decide +kernel

theorem pow_ref {n : Int} (h0 : 1 ≤ n) (h1 : n ≤ 512) : pumiceref03_power.f 20 n = some (powB n) := by
  have h := pow_fin ⟨n.toNat, by omega⟩ (by show 1 ≤ n.toNat; omega)
  rw [show ((⟨n.toNat, by omega⟩ : Fin 513).val : Int) = n from by show (n.toNat : Int) = n; omega] at h
  exact h

theorem Right_ref (a b c d : Int) : pumiceref03_Right.f 20 a b c d = nand_Right.f a b c d := by
  unfold pumiceref03_Right.f nand_Right.f
  by_cases c1 : 16 ≤ a
  · rw [if_neg (by omega), if_pos c1]
    by_cases c2 : a ≤ 256
    · rw [if_neg (by omega), if_pos c2]
      by_cases c3 : 8 ≤ b
      · rw [if_neg (by omega), if_pos c3]
        by_cases c4 : b ≤ 64
        · rw [if_neg (by omega), if_pos c4, pow_ref (by omega) (by omega)]
          simp only [Option.bind_some]
          by_cases c5 : powB b = true
          · rw [if_pos c5, if_pos c5]
            by_cases c6 : 64 ≤ c
            · rw [if_pos (by omega), if_pos c6]
              by_cases c7 : c ≤ 512
              · rw [if_pos c7, if_pos c7, pow_ref (by omega) (by omega)]
                simp only [Option.bind_some]
                by_cases c8 : powB c = true
                · rw [if_pos c8, if_pos c8]
                  rw [show wrap64 (b - 2) = b - 2 from by unfold wrap64; omega, show wrap64 (Int.tdiv a 4) = a / 4 from by rw [Int.tdiv_eq_ediv_of_nonneg (by omega)]; unfold wrap64; omega]
                · rw [if_neg c8, if_neg c8]
              · rw [if_neg c7, if_neg c7]
            · rw [if_neg (by omega), if_neg c6]
          · rw [if_neg c5, if_neg c5]
        · rw [if_pos (by omega), if_neg c4]
      · rw [if_pos (by omega), if_neg c3]
    · rw [if_pos (by omega), if_neg c2]
  · rw [if_pos (by omega), if_neg c1]

theorem Right_some (a b c d : Int) : ∃ r, nand_Right.f a b c d = some r := by
  unfold nand_Right.f
  repeat' split
  all_goals exact ⟨_, rfl⟩

theorem Lebs_ref (a b c d : Int) : pumiceref16_Lebs.f 20 a b c d = space_Lebs.f a b c d := by unfold pumiceref16_Lebs.f space_Lebs.f; rw [Right_ref]
theorem Bytes_ref (a b c d : Int) : pumiceref16_Bytes.f 20 a b c d = space_Bytes.f a b c d := by unfold pumiceref16_Bytes.f space_Bytes.f; rw [Right_ref]
theorem Most_ref (a b c d : Int) : pumiceref16_Most.f 20 a b c d = space_Most.f a b c d := by unfold pumiceref16_Most.f space_Most.f; rw [Right_ref]
theorem Limit_ref (a b c d : Int) : pumiceref16_Limit.f 20 a b c d = space_Limit.f a b c d := by unfold pumiceref16_Limit.f space_Limit.f; rw [Right_ref, Lebs_ref, Bytes_ref]
theorem Lebs_some (a b c d : Int) : ∃ r, space_Lebs.f a b c d = some r := by
  obtain ⟨r, h⟩ := Right_some a b c d
  unfold space_Lebs.f
  rw [h]
  cases r <;> exact ⟨_, rfl⟩
theorem Bytes_some (a b c d : Int) : ∃ r, space_Bytes.f a b c d = some r := by
  obtain ⟨r, h⟩ := Right_some a b c d
  unfold space_Bytes.f
  rw [h]
  cases r <;> exact ⟨_, rfl⟩
theorem Most_some (a b c d : Int) : ∃ r, space_Most.f a b c d = some r := by
  obtain ⟨r, h⟩ := Right_some a b c d
  unfold space_Most.f
  rw [h]
  cases r <;> exact ⟨_, rfl⟩
theorem Limit_some (a b c d : Int) : ∃ r, space_Limit.f a b c d = some r := by
  obtain ⟨r, h⟩ := Right_some a b c d
  obtain ⟨r1, h1⟩ := Lebs_some a b c d
  obtain ⟨r2, h2⟩ := Bytes_some a b c d
  unfold space_Limit.f
  rw [h, h1, h2]
  cases r <;> exact ⟨_, rfl⟩

end Go.Proofs.Ytgjpbiogkjiliaa.Q
