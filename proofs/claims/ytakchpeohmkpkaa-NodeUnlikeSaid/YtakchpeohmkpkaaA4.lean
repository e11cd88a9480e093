/- What the two readers of keys answer is the same. -/
import Derived.Test.YtakchpeohmkpkaaA1
import Derived.Test.YtakchpeohmkpkaaK3
import Derived.Test.YtakchpeohmkpkaaK12
namespace Go.Proofs.Ytakchpeohmkpkaa.Q
open Go.RowKit Go.Proofs.YtakchpeohmkpkaaW.PrintWords
set_option linter.unusedVariables false
set_option linter.unusedSimpArgs false
theorem bt_get (s : ByteArray) (i : Nat) (h : i < s.size) : s.toList[i]? = some (u8_ (bt s (i : Int))) ∧ bt s (i : Int) = ((s[i]'h).toNat : Int) := by
  have hb : bt s (i : Int) = ((s[i]'h).toNat : Int) := (bt_at s (i : Int) h).symm
  refine ⟨?_, hb⟩
  rw [Lib.toList_data, hb]
  have : s.data.toList[i]? = some (s[i]'h) := by
    rw [List.getElem?_eq_getElem (by rw [data_length]; exact h)]
    rfl
  rw [this]
  congr 1
  show _ = UInt8.ofNat (((s[i]'h).toNat : Int)).toNat
  rw [Int.toNat_natCast, UInt8.ofNat_toNat]
theorem size_l (s : ByteArray) : s.size = s.toList.length := by rw [Lib.toList_data]; exact (data_length s).symm
theorem has_loop (s : ByteArray) (hs : s.size ≤ 281474976710656) (c : Nat) (hc : c < 256) : ∀ (d k i : Nat), i + d = s.size → d < k → pumiceref02_Has.l0 k s c i = some (decide (UInt8.ofNat c ∈ s.toList.drop i))
  | 0, k + 1, i, h, _ => by
    rw [pumiceref02_Has.l0, if_neg (by omega), List.drop_eq_nil_of_le (by rw [← size_l]; omega)]
    simp
  | d + 1, k + 1, i, h, hk => by
    have hi : i < s.size := by omega
    obtain ⟨h1, h2⟩ := bt_get s i hi
    have hl : i < s.toList.length := by rw [← size_l]; exact hi
    have hd : s.toList.drop i = (s[i]'hi) :: s.toList.drop (i + 1) := by
      rw [List.drop_eq_getElem_cons hl]
      congr 1
      have := List.getElem?_eq_getElem hl
      rw [h1] at this
      rw [← Option.some.inj this, h2]
      show UInt8.ofNat (((s[i]'hi).toNat : Int)).toNat = _
      rw [Int.toNat_natCast, UInt8.ofNat_toNat]
    rw [pumiceref02_Has.l0, if_pos (by omega), if_pos (by omega)]
    by_cases hq : bt s (i : Int) = (c : Int)
    · rw [if_pos hq, hd]
      have : s[i]'hi = UInt8.ofNat c := by
        rw [h2] at hq
        have h3 : (s[i]'hi).toNat = c := by omega
        rw [← h3, UInt8.ofNat_toNat]
      rw [this]
      simp
    · have hne : s[i]'hi ≠ UInt8.ofNat c := by
        intro he
        apply hq
        rw [h2, he, UInt8.toNat_ofNat']
        omega
      rw [if_neg hq, hd, show wrap64 ((i : Int) + 1) = ((i + 1 : Nat) : Int) from by unfold wrap64; omega, has_loop s hs c hc d k (i + 1) (by omega) (by omega)]
      congr 1
      simp only [List.mem_cons]
      have : ¬ UInt8.ofNat c = s[i]'hi := fun h => hne h.symm
      simp [this]
theorem has_val (s : ByteArray) (hs : s.size ≤ 281474976710656) (c : Nat) (hc : c < 256) (k : Nat) (hk : s.size < k) : pumiceref02_Has.f k s c = some (decide (UInt8.ofNat c ∈ s.toList)) := by
  unfold pumiceref02_Has.f
  have := has_loop s hs c hc s.size k 0 (by omega) hk
  simpa using this
/-- The name rule, plain. -/
def nameE (s : ByteArray) : Int := if s.toList = [] then 2 else if hasBad s.data.toList = true ∨ s.toList = [46] ∨ s.toList = [46, 46] then 22 else if 24 < (s.size : Int) then 36 else 0
theorem bad_mem (s : ByteArray) : hasBad s.data.toList = true ↔ (47 : UInt8) ∈ s.toList ∨ (0 : UInt8) ∈ s.toList := by
  rw [Lib.toList_data]
  unfold hasBad
  rw [List.any_eq_true]
  constructor
  · rintro ⟨x, hx, h⟩
    simp only [Bool.or_eq_true, beq_iff_eq] at h
    rcases h with rfl | rfl
    · exact .inl hx
    · exact .inr hx
  · rintro (h | h)
    · exact ⟨_, h, by simp⟩
    · exact ⟨_, h, by simp⟩
theorem right02_val (s : ByteArray) (hs : s.size ≤ 281474976710656) (k : Nat) (hk : s.size < k) : pumiceref02_Right.f k s = some (nameE s) := by
  unfold pumiceref02_Right.f nameE
  by_cases h0 : s.toList = []
  · rw [if_pos h0, if_pos h0]
  rw [if_neg h0, if_neg h0]
  have h1 := has_val s hs 47 (by decide) k hk
  have h2 := has_val s hs 0 (by decide) k hk
  rw [show ((47 : Nat) : Int) = 47 from rfl] at h1
  rw [show ((0 : Nat) : Int) = 0 from rfl] at h2
  rw [show UInt8.ofNat 47 = (47 : UInt8) from rfl] at h1
  rw [show UInt8.ofNat 0 = (0 : UInt8) from rfl] at h2
  rw [h1, h2]
  simp only [Option.bind_some, decide_eq_true_eq]
  obtain ⟨k, rfl⟩ : ∃ j, k = j + 1 := ⟨k - 1, by omega⟩
  have hj : ∀ b, pumiceref02_Right.j0 (k + 1) s b = some (if b = true then 22 else if 24 < (s.size : Int) then 36 else 0) := by
    intro b
    rw [pumiceref02_Right.j0]
    cases b <;> simp
    split <;> simp_all
  simp only [hj]
  by_cases hb : hasBad s.data.toList = true
  · rw [if_pos (Or.inl hb)]
    rcases (bad_mem s).1 hb with h | h
    · rw [if_pos h]; simp
    · by_cases h' : (47 : UInt8) ∈ s.toList
      · rw [if_pos h']; simp
      · rw [if_neg h', if_pos h]; simp
  · have hn := mt (bad_mem s).2 hb
    rw [if_neg (fun h => hn (Or.inl h)), if_neg (fun h => hn (Or.inr h))]
    by_cases h46 : s.toList = [46]
    · rw [if_pos h46, if_pos (Or.inr (Or.inl h46))]; simp
    · rw [if_neg h46]
      by_cases h47 : s.toList = [46, 46]
      · rw [if_pos (Or.inr (Or.inr h47)), h47]; simp
      · have hh : ¬ (hasBad s.data.toList = true ∨ s.toList = [46] ∨ s.toList = [46, 46]) := fun h => by
          rcases h with h | h | h
          · exact hb h
          · exact h46 h
          · exact h47 h
        rw [if_neg hh, if_neg (by simpa using h47)]
theorem names_val (s : ByteArray) (hs : s.size ≤ 281474976710656) : names_Right.f s = some (nameE s) := by
  unfold names_Right.f nameE
  rw [if_pos hs]
theorem kind_same (s : ByteArray) (hs : s.size ≤ 281474976710656) : pumiceref06_Kind.f s = node_Kind.f s := by
  unfold pumiceref06_Kind.f node_Kind.f
  by_cases h3 : s.size < 3
  · rw [if_pos h3, if_pos h3]
  rw [if_neg h3, if_neg h3]
  have hr : (s.extract 3 s.size).size ≤ 281474976710656 := by rw [ByteArray.size_extract]; omega
  rw [right02_val _ hr _ (by omega), names_val _ hr]
  simp only [Option.bind_some]
  congr 2
  have e : ((num2 s == 0) && (bt s 2 == 4)) = ((num2 s == 0) && ((s.extract 0 3).toList == ([0, 0, 4] : List UInt8))) := by
    by_cases hn : num2 s = 0
    · have r0 := bt_range s 0
      have r1 := bt_range s 1
      have r2 := bt_range s 2
      have hn' := hn
      unfold num2 at hn'
      have hb0 : bt s 0 = 0 := by omega
      have hb1 : bt s 1 = 0 := by omega
      have hx : (s.extract 0 3).toList = [u8_ 0, u8_ 0, u8_ (bt s 2)] := by
        have l0 := (bt_get s 0 (by omega)).1
        have l1 := (bt_get s 1 (by omega)).1
        have l2 := (bt_get s 2 (by omega)).1
        rw [show ((0 : Nat) : Int) = 0 from rfl, hb0] at l0
        rw [show ((1 : Nat) : Int) = 1 from rfl, hb1] at l1
        rw [show ((2 : Nat) : Int) = 2 from rfl] at l2
        have ht : (s.extract 0 3).toList = s.toList.take 3 := by
          rw [Lib.toList_data, Lib.toList_data]
          simp
        rw [ht]
        match hh : s.toList, l0, l1, l2 with
        | a :: b :: c :: t, l0, l1, l2 =>
          simp only [List.getElem?_cons_zero, List.getElem?_cons_succ, Option.some.injEq] at l0 l1 l2
          subst l0 l1 l2
          rfl
      rw [hx]
      by_cases hb2 : bt s 2 = 4
      · rw [hb2, hn]; rfl
      · have : ¬ u8_ (bt s 2) = 4 := fun h => hb2 ((u8_eq (b := 4) (by omega) (by omega)).1 h)
        have q1 : (bt s 2 == 4) = false := beq_eq_false_iff_ne.2 hb2
        have q2 : (([u8_ 0, u8_ 0, u8_ (bt s 2)] : List UInt8) == [0, 0, 4]) = false := beq_eq_false_iff_ne.2 (fun h => this (List.cons.inj (List.cons.inj (List.cons.inj h).2).2).1)
        rw [q1, q2]
    · have q : (num2 s == 0) = false := beq_eq_false_iff_ne.2 hn
      rw [q]
      rfl
  rw [e]
end Go.Proofs.Ytakchpeohmkpkaa.Q
