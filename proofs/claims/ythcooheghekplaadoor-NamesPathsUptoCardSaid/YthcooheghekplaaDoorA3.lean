/- Plain: NamesRights. No condition beside the texts' lengths. -/
import Derived.Test.YthcooheghekplaaDoorA1
namespace Go.Proofs.YthcooheghekplaaDoor.Q
open Go.RowKit Go.Proofs.YthcooheghekplaaDoorW.PrintWords Go.Proofs.YthcooheghekplaaDoorW.PrintLast Go.Proofs.YthcooheghekplaaDoorW.PrintMore Go.Proofs.YthcooheghekplaaDoor.Cut
set_option linter.unusedVariables false
set_option linter.unusedSimpArgs false
theorem bt_nat {s : ByteArray} {i : Nat} (h : i < s.size) : bt s (i : Int) = ((s.data.toList[i]'(by rw [sz]; exact h)).toNat : Int) := by
  unfold bt
  rw [dif_pos (by rw [Int.toNat_natCast]; exact h)]
  rfl
theorem has_l0 (s : ByteArray) (c : UInt8) (hs : s.size ≤ 9000000000000000000) : ∀ (d k i : Nat), s.size - i = d → i ≤ s.size → d + 1 ≤ k → pumiceref02_Has.l0 k s ((c.toNat : Nat) : Int) (i : Int) = some (decide (c ∈ s.data.toList.drop i)) := by
  intro d
  induction d with
  | zero =>
    intro k i h0 h1 h2
    obtain ⟨j, rfl⟩ : ∃ j, k = j + 1 := ⟨k - 1, by omega⟩
    rw [pumiceref02_Has.l0, if_neg (by omega), List.drop_of_length_le (by rw [sz]; omega)]
    simp
  | succ d ih =>
    intro k i h0 h1 h2
    obtain ⟨j, rfl⟩ : ∃ j, k = j + 1 := ⟨k - 1, by omega⟩
    have hi : i < s.size := by omega
    have hw : wrap64 ((i : Int) + 1) = ((i + 1 : Nat) : Int) := by rw [w64 _ (by omega)]; omega
    rw [pumiceref02_Has.l0, if_pos (by omega), if_pos (by omega), bt_nat hi, hw, List.drop_eq_getElem_cons (by rw [sz]; exact hi)]
    generalize s.data.toList[i]'(by rw [sz]; exact hi) = b
    by_cases hb : b = c
    · rw [if_pos (by rw [hb]), hb, decide_eq_true (List.mem_cons_self ..)]
    · rw [if_neg (fun e => hb (UInt8.toNat_inj.1 (by omega))), ih j (i + 1) (by omega) (by omega) (by omega)]
      congr 1
      exact decide_eq_decide.2 ⟨fun h => List.mem_cons_of_mem _ h, fun h => (List.mem_cons.1 h).resolve_left (fun e => hb e.symm)⟩
theorem has_f (s : ByteArray) (c : UInt8) (hs : s.size ≤ 9000000000000000000) {k : Nat} (hk : s.size + 1 ≤ k) : pumiceref02_Has.f k s ((c.toNat : Nat) : Int) = some (decide (c ∈ s.data.toList)) := by
  unfold pumiceref02_Has.f
  exact has_l0 s c hs s.size k 0 (by omega) (by omega) (by omega)
theorem bad_iff (l : List UInt8) : hasBad l = true ↔ (47 : UInt8) ∈ l ∨ (0 : UInt8) ∈ l := by
  unfold hasBad
  rw [List.any_eq_true]
  constructor
  · rintro ⟨x, hx, h⟩
    rcases Bool.or_eq_true_iff.1 h with h | h
    · rw [eq_of_beq h] at hx; exact .inl hx
    · rw [eq_of_beq h] at hx; exact .inr hx
  · rintro (h | h)
    · exact ⟨_, h, rfl⟩
    · exact ⟨_, h, rfl⟩
theorem right_f (s : ByteArray) (hs : s.size ≤ 281474976710656) {k : Nat} (hk : s.size + 5 ≤ k) : pumiceref02_Right.f k s = names_Right.f s := by
  obtain ⟨j, rfl⟩ : ∃ j, k = j + 1 := ⟨k - 1, by omega⟩
  have h47 : pumiceref02_Has.f (j + 1) s 47 = some (decide ((47 : UInt8) ∈ s.data.toList)) := has_f s 47 (by omega) (by omega)
  have h0 : pumiceref02_Has.f (j + 1) s 0 = some (decide ((0 : UInt8) ∈ s.data.toList)) := has_f s 0 (by omega) (by omega)
  have hb := bad_iff s.data.toList
  unfold pumiceref02_Right.f names_Right.f
  rw [if_pos hs]
  by_cases c0 : s.toList = []
  · rw [if_pos c0, if_pos c0]
  · rw [if_neg c0, if_neg c0, h47, Option.bind_some]
    by_cases c1 : (47 : UInt8) ∈ s.data.toList
    · rw [decide_eq_true c1, if_pos rfl, pumiceref02_Right.j0, if_pos rfl, if_pos (.inl (hb.2 (.inl c1)))]
    · rw [decide_eq_false c1, if_neg (by decide), h0, Option.bind_some]
      by_cases c2 : (0 : UInt8) ∈ s.data.toList
      · rw [decide_eq_true c2, if_pos rfl, pumiceref02_Right.j0, if_pos rfl, if_pos (.inl (hb.2 (.inr c2)))]
      · rw [decide_eq_false c2, if_neg (by decide)]
        have hnb : ¬ hasBad s.data.toList = true := fun h => (hb.1 h).elim c1 c2
        by_cases c3 : s.toList = [46]
        · rw [if_pos c3, pumiceref02_Right.j0, if_pos rfl, if_pos (.inr (.inl c3))]
        · rw [if_neg c3, pumiceref02_Right.j0]
          by_cases c4 : s.toList = [46, 46]
          · rw [if_pos (by rw [c4]; rfl), if_pos (.inr (.inr c4))]
          · rw [if_neg (by rw [beq_eq_false_iff_ne.2 c4]; decide), if_neg (show ¬ (hasBad s.data.toList = true ∨ s.toList = [46] ∨ s.toList = [46, 46]) from fun h => h.elim hnb (fun h => h.elim c3 c4))]
            by_cases c5 : (s.size : Int) > 24
            · rw [if_pos c5, if_pos (by omega)]
            · rw [if_neg c5, if_neg (by omega)]
theorem col_cons (x : ByteArray) (r : List ByteArray) : col (x :: r) = if x.size ≠ 0 then x :: col r else col r := by
  unfold col
  rw [List.filter_cons]
  by_cases h : x.size = 0 <;> simp [h]
theorem ext_mk (s : ByteArray) (a b : Nat) (h : b ≤ s.size) : s.extract a b = mkB ((s.data.toList.drop a).take (b - a)) := by
  apply ba_eq
  rw [mkB_data]
  simp only [ByteArray.data_extract, Array.toList_extract, List.extract_eq_take_drop]
theorem parts_l0 (s : ByteArray) (hs : s.size ≤ 255) : ∀ (d k i f : Nat) (acc : List ByteArray), s.size - i = d → i ≤ s.size → f ≤ i → 2 * d + 4 ≤ k → acc.length + (s.size - f) ≤ 1000 → (47 : UInt8) ∉ (s.data.toList.drop f).take (i - f) →
    pumiceref02_parts.l0 k s acc (f : Int) (i : Int) = some (acc ++ col ((cutL (s.data.toList.drop f)).map mkB)) := by
  intro d
  induction d with
  | zero =>
    intro k i f acc h0 h1 hf h2 h3 h4
    obtain ⟨j, rfl⟩ : ∃ j, k = j + 1 + 1 + 1 := ⟨k - 3, by omega⟩
    obtain rfl : i = s.size := by omega
    have hw : wrap64 ((s.size : Int) + 1) = ((s.size + 1 : Nat) : Int) := by rw [w64 _ (by omega)]; omega
    have hd : (s.data.toList.drop f).take (s.size - f) = s.data.toList.drop f := List.take_of_length_le (by rw [List.length_drop, sz]; omega)
    rw [hd] at h4
    have hend : ∀ q g, pumiceref02_parts.l0 (j + 1) s q g ((s.size + 1 : Nat) : Int) = some q := fun q g => by rw [pumiceref02_parts.l0, if_neg (by omega)]
    rw [pumiceref02_parts.l0, if_pos (by omega), if_pos rfl, pumiceref02_parts.j1, if_pos rfl, cut_no h4, List.map_cons, List.map_nil, col_cons, mkB_size, List.length_drop, sz, hw]
    by_cases c : f < s.size
    · rw [if_pos (by omega), if_pos (by omega), if_pos (by omega), if_pos (by omega), if_pos (by omega), hend, Int.toNat_natCast, Int.toNat_natCast, ext_mk s f s.size (Nat.le_refl _), hd, if_pos (by omega)]
      rfl
    · rw [if_neg (by omega), hend, if_neg (by omega)]
      exact congrArg some (List.append_nil acc).symm
  | succ d ih =>
    intro k i f acc h0 h1 hf h2 h3 h4
    obtain ⟨j, rfl⟩ : ∃ j, k = j + 1 + 1 := ⟨k - 2, by omega⟩
    have hi : i < s.size := by omega
    have hil : i < s.data.toList.length := by rw [sz]; exact hi
    have hw : wrap64 ((i : Int) + 1) = ((i + 1 : Nat) : Int) := by rw [w64 _ (by omega)]; omega
    have hsp : s.data.toList.drop f = (s.data.toList.drop f).take (i - f) ++ s.data.toList[i] :: s.data.toList.drop (i + 1) := by
      conv => lhs; rw [← List.take_append_drop (i - f) (s.data.toList.drop f)]
      rw [List.drop_drop, show f + (i - f) = i by omega, List.drop_eq_getElem_cons hil]
    rw [pumiceref02_parts.l0, if_pos (by omega), if_neg (by omega), if_pos (by omega), if_pos (by omega), bt_nat hi, pumiceref02_parts.j1]
    by_cases c : s.data.toList[i] = 47
    · rw [c] at hsp
      have hb : ((((s.data.toList[i]).toNat : Nat) : Int) == 47) = true := by rw [c]; rfl
      rw [hb, if_pos rfl, hw]
      have hcut : cutL (s.data.toList.drop f) = (s.data.toList.drop f).take (i - f) :: cutL (s.data.toList.drop (i + 1)) := by
        conv => lhs; rw [hsp]
        exact cut_app _ h4
      rw [hcut, List.map_cons, col_cons, mkB_size]
      have hlen : ((s.data.toList.drop f).take (i - f)).length = i - f := by rw [List.length_take, List.length_drop, sz]; omega
      rw [hlen]
      by_cases c2 : f < i
      · rw [if_pos (by omega), if_pos (by omega), if_pos (by omega), if_pos (by omega), if_pos (by omega), Int.toNat_natCast, Int.toNat_natCast, ext_mk s f i (by omega), ih j (i + 1) (i + 1) _ (by omega) (by omega) (by omega) (by omega) (by rw [List.length_append, List.length_singleton]; omega) (by simp), if_pos (by omega), List.append_assoc]
        rfl
      · rw [if_neg (by omega), ih j (i + 1) (i + 1) _ (by omega) (by omega) (by omega) (by omega) (by omega) (by simp), if_neg (by omega)]
    · have hb : ((((s.data.toList[i]).toNat : Nat) : Int) == 47) = false := beq_eq_false_iff_ne.2 (fun e => c (UInt8.toNat_inj.1 (by show _ = 47; omega)))
      rw [hb, if_neg (by decide), hw]
      refine ih j (i + 1) f acc (by omega) (by omega) (by omega) (by omega) h3 ?_
      rw [show i + 1 - f = (i - f) + 1 by omega, List.take_add_one]
      intro hm
      rcases List.mem_append.1 hm with hm | hm
      · exact h4 hm
      · rw [List.getElem?_drop, show f + (i - f) = i by omega, List.getElem?_eq_getElem hil] at hm
        simp only [Option.toList_some, List.mem_singleton] at hm
        exact c hm.symm
theorem parts_f (s : ByteArray) (hs : s.size ≤ 255) {k : Nat} (hk : 600 ≤ k) : pumiceref02_parts.f k s = some (col (pieces s)) := by
  unfold pumiceref02_parts.f
  refine (parts_l0 s hs s.size k 0 0 [] (by omega) (by omega) (by omega) (by omega) (by rw [List.length_nil]; omega) (by simp)).trans ?_
  rfl
theorem split_l0 (s : ByteArray) (l : List ByteArray) (h0 : s.size ≠ 0) (hs : s.size ≤ 255) (hl : l.length ≤ 32) : ∀ (d k i : Nat), l.length - i = d → i ≤ l.length → d + 1 ≤ k →
    pumiceref02_Split.l0 k s l (i : Int) = if ∀ x ∈ l.drop i, x.size ≤ 24 then some (l, endSlash s, 0) else some ([], false, 36) := by
  intro d
  induction d with
  | zero =>
    intro k i h1 h2 h3
    obtain ⟨j, rfl⟩ : ∃ j, k = j + 1 := ⟨k - 1, by omega⟩
    have hw : wrap64 ((s.size : Int) - 1) = (s.size : Int) - 1 := w64 _ (by omega)
    rw [pumiceref02_Split.l0, if_neg (by omega), hw, if_pos (by omega), if_pos (by omega), List.drop_of_length_le (by omega), if_pos (by simp)]
    rfl
  | succ d ih =>
    intro k i h1 h2 h3
    obtain ⟨j, rfl⟩ : ∃ j, k = j + 1 := ⟨k - 1, by omega⟩
    have hi : i < l.length := by omega
    have hw : wrap64 ((i : Int) + 1) = ((i + 1 : Nat) : Int) := by rw [w64 _ (by omega)]; omega
    rw [pumiceref02_Split.l0, if_pos (by omega), if_pos (by omega), rdat hi, hw, List.drop_eq_getElem_cons hi]
    by_cases c : (l[i].size : Int) > 24
    · rw [if_pos c, if_neg (fun h => by have := h _ (List.mem_cons_self ..); omega)]
    · rw [if_neg c, ih j (i + 1) (by omega) (by omega) (by omega)]
      by_cases c2 : ∀ x ∈ l.drop (i + 1), x.size ≤ 24
      · rw [if_pos c2, if_pos (fun x hx => by
          rcases List.mem_cons.1 hx with rfl | hx
          · omega
          · exact c2 x hx)]
      · rw [if_neg c2, if_neg (fun h => c2 (fun x hx => h x (List.mem_cons_of_mem _ hx)))]
theorem ref_split (s : ByteArray) {k : Nat} (hk : 600 ≤ k) : pumiceref02_Split.f k s = names_Split.f s := by
  unfold pumiceref02_Split.f names_Split.f
  by_cases c0 : s.size = 0
  · rw [if_pos ((nil_iff s).2 c0), if_pos c0]
  · rw [if_neg (fun h => c0 ((nil_iff s).1 h)), if_neg c0]
    by_cases c1 : 255 < s.size
    · rw [if_pos (by omega), if_pos c1]
    · rw [if_neg (by omega), if_neg c1]
      have hh : pumiceref02_Has.f k s 0 = some (decide ((0 : UInt8) ∈ s.data.toList)) := has_f s 0 (by omega) (by omega)
      rw [hh, Option.bind_some]
      by_cases c2 : 0 ≤ Lib.indexByte s.data.toList 0
      · rw [if_pos c2, if_pos (decide_eq_true (Decidable.not_not.1 (fun h => idx_neg.2 h c2)))]
      · rw [if_neg c2, if_neg (by rw [decide_eq_false (idx_neg.1 c2)]; decide), parts_f s (by omega) hk, Option.bind_some, suffix_f c0 (by omega), Option.bind_some]
        by_cases c3 : (col (pieces s)).length ≤ 32
        · rw [if_neg (by omega)]
          refine (split_l0 s _ c0 (by omega) c3 _ k 0 rfl (by omega) (by omega)).trans ?_
          rw [List.drop_zero]
          by_cases c4 : ∀ x ∈ col (pieces s), x.size ≤ 24
          · rw [if_pos c4, if_pos ⟨c4, c3⟩]
          · rw [if_neg c4, if_neg (fun h => c4 h.1)]
        · rw [if_pos (by omega), if_neg (fun h => c3 h.2)]
theorem split_total (s : ByteArray) : ∃ l b e, names_Split.f s = some (l, b, e) ∧ l.length ≤ 32 := by
  rcases split_cases s with ⟨e, _, h⟩ | ⟨h, hg, _⟩
  · exact ⟨[], false, e, h, by decide⟩
  · exact ⟨_, _, _, h, hg.len⟩
theorem rights_plain (a0 a1 : ByteArray) (h0 : a0.size ≤ 281474976710656) {k : Nat} (hk : a0.size + 700 ≤ k) : pumicelaw02_NamesRights.f k a0 a1 = some true := by
  have ha := alive_f (k := k) (by omega)
  obtain ⟨l, b, e, hs, hl⟩ := split_total a1
  obtain ⟨t, ht⟩ : ∃ t, names_Right.f a0 = some t := by unfold names_Right.f; rw [if_pos h0]; exact ⟨_, rfl⟩
  have hsame : pumicelaw02_same.f k l b l b = some true := by
    unfold pumicelaw02_same.f
    rw [texts_f (by omega) (by omega), Option.bind_some, if_pos rfl, beq_self_eq_true]
  unfold pumicelaw02_NamesRights.f
  rw [ref_split a1 (by omega), hs, Option.bind_some, Option.bind_some, right_f a0 h0 (by omega), ht, Option.bind_some, Option.bind_some, if_pos rfl, hsame, Option.bind_some, if_pos rfl, if_pos rfl, ha]
  rfl
end Go.Proofs.YthcooheghekplaaDoor.Q
