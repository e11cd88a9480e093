/- Plain: Less, Sort: NamesOrders, NamesSorted. No condition beside the lengths. -/
import Derived.Test.YthcooheghekplaaDoorA1
import Derived.Test.YthcooheghekplaaDoorQ8
import Derived.Sort.Walk0
namespace Go.Proofs.YthcooheghekplaaDoor.Q
open Go.RowKit Go.Proofs.YthcooheghekplaaDoorW.PrintWords Go.Proofs.YthcooheghekplaaDoorW.PrintLast Go.Proofs.YthcooheghekplaaDoorW.PrintMore Go.Proofs.YthcooheghekplaaDoor.Cut
set_option linter.unusedVariables false
set_option linter.unusedSimpArgs false
abbrev D (s : ByteArray) : List UInt8 := s.data.toList
theorem less_eq (a b : ByteArray) : names_Less.f a b = some (decide (D a < D b)) := by
  unfold names_Less.f
  rw [bytesLess_eq, tl, tl]
theorem bt_nat' {s : ByteArray} {i : Nat} (h : i < s.size) : bt s (i : Int) = (((D s)[i]'(by rw [sz]; exact h)).toNat : Int) := by
  unfold bt
  rw [dif_pos (by rw [Int.toNat_natCast]; exact h)]
  rfl
theorem less_l0 (a b : ByteArray) (ha : a.size ≤ 4000000000000000000) (hb : b.size ≤ 4000000000000000000) : ∀ (d k i : Nat), a.size - i = d → i ≤ a.size → i ≤ b.size → 2 * d + 3 ≤ k →
    pumiceref02_Less.l0 k a b (i : Int) = some (Op.bytesLess ((D a).drop i) ((D b).drop i)) := by
  intro d
  induction d with
  | zero =>
    intro k i h0 h1 h2 h3
    obtain ⟨j, rfl⟩ : ∃ j, k = j + 1 + 1 := ⟨k - 2, by omega⟩
    rw [pumiceref02_Less.l0, if_neg (by omega), pumiceref02_Less.j1, if_neg (by decide), List.drop_of_length_le (l := D a) (by rw [sz]; omega)]
    congr 1
    rcases Nat.lt_or_ge i b.size with h | h
    · rw [List.drop_eq_getElem_cons (l := D b) (by rw [sz]; exact h), decide_eq_true (by omega)]
      rfl
    · rw [List.drop_of_length_le (l := D b) (by rw [sz]; omega), decide_eq_false (by omega)]
      rfl
  | succ d ih =>
    intro k i h0 h1 h2 h3
    obtain ⟨j, rfl⟩ : ∃ j, k = j + 1 + 1 := ⟨k - 2, by omega⟩
    have hi : i < a.size := by omega
    have hw : wrap64 ((i : Int) + 1) = ((i + 1 : Nat) : Int) := by rw [w64 _ (by omega)]; omega
    rw [pumiceref02_Less.l0, if_pos (by omega), pumiceref02_Less.j1, List.drop_eq_getElem_cons (l := D a) (by rw [sz]; exact hi)]
    rcases Nat.lt_or_ge i b.size with h | h
    · rw [if_pos (decide_eq_true (by omega)), if_pos (by omega), if_pos (by omega), if_pos (by omega), bt_nat' hi, bt_nat' h, hw, List.drop_eq_getElem_cons (l := D b) (by rw [sz]; exact h), Op.bytesLess]
      generalize (D a)[i]'(by rw [sz]; exact hi) = x
      generalize (D b)[i]'(by rw [sz]; exact h) = y
      by_cases hxy : x = y
      · subst hxy
        have hlt : ¬ x < x := by simp
        rw [if_pos rfl, ih j (i + 1) (by omega) (by omega) (by omega) (by omega), decide_eq_false hlt, beq_self_eq_true, Bool.false_or, Bool.true_and]
      · have hn : ¬ ((x.toNat : Int) = (y.toNat : Int)) := fun e => hxy (UInt8.toNat_inj.1 (by omega))
        rw [if_neg hn, beq_eq_false_iff_ne.2 hxy, Bool.false_and, Bool.or_false]
        congr 1
        exact decide_eq_decide.2 (by rw [UInt8.lt_iff_toNat_lt]; omega)
    · rw [if_neg (by rw [decide_eq_false (by omega)]; decide), List.drop_of_length_le (l := D b) (by rw [sz]; omega), decide_eq_false (by omega)]
      rfl
theorem ref_less (a b : ByteArray) (ha : a.size ≤ 4000000000000000000) (hb : b.size ≤ 4000000000000000000) {k : Nat} (hk : 2 * a.size + 3 ≤ k) : pumiceref02_Less.f k a b = some (decide (D a < D b)) := by
  unfold pumiceref02_Less.f
  refine (less_l0 a b ha hb a.size k 0 (by omega) (by omega) (by omega) (by omega)).trans ?_
  rw [List.drop_zero, List.drop_zero, bytesLess_eq]
end Go.Proofs.YthcooheghekplaaDoor.Q
