/- Plain: Less, Sort: NamesOrders, NamesSorted. No condition beside the lengths. -/
import Derived.Test.YthcooheghekplaaDoorA4c
namespace Go.Proofs.YthcooheghekplaaDoor.Q
open Go.RowKit Go.Proofs.YthcooheghekplaaDoorW.PrintWords Go.Proofs.YthcooheghekplaaDoorW.PrintLast Go.Proofs.YthcooheghekplaaDoorW.PrintMore Go.Proofs.YthcooheghekplaaDoor.Cut
set_option linter.unusedVariables false
set_option linter.unusedSimpArgs false
theorem within_l0 (l m : List ByteArray) (hlm : m.length ≤ l.length) (hl : l.length ≤ 4000000000000000000) : ∀ (d k i : Nat), m.length - i = d → i ≤ m.length → d + 1 ≤ k →
    pumiceref02_Within.l0 k l m (i : Int) = some (decide (m.drop i <+: l.drop i)) := by
  intro d
  induction d with
  | zero =>
    intro k i h0 h1 h2
    obtain ⟨j, rfl⟩ : ∃ j, k = j + 1 := ⟨k - 1, by omega⟩
    rw [pumiceref02_Within.l0, if_neg (by omega), List.drop_of_length_le (l := m) (by omega), decide_eq_true (List.nil_prefix)]
  | succ d ih =>
    intro k i h0 h1 h2
    obtain ⟨j, rfl⟩ : ∃ j, k = j + 1 := ⟨k - 1, by omega⟩
    have hi : i < m.length := by omega
    have hj : i < l.length := by omega
    have hw : wrap64 ((i : Int) + 1) = ((i + 1 : Nat) : Int) := by rw [w64 _ (by omega)]; omega
    rw [pumiceref02_Within.l0, if_pos (by omega), if_pos (by omega), if_pos (by omega), rdat hi, rdat hj, hw, List.drop_eq_getElem_cons hi, List.drop_eq_getElem_cons hj]
    by_cases he : m[i] = l[i]
    · rw [if_pos (by rw [he]), ih j (i + 1) (by omega) (by omega) (by omega)]
      congr 1
      exact decide_eq_decide.2 (by rw [he, List.cons_prefix_cons]; simp)
    · rw [if_neg (fun h => he (toList_inj.1 h))]
      congr 1
      symm
      exact decide_eq_false (fun h => he (List.cons_prefix_cons.1 h).1)
theorem ref_within (l m : List ByteArray) (hl : l.length ≤ 4000000000000000000) {k : Nat} (hk : l.length + 1 ≤ k) : pumiceref02_Within.f k l m = some (decide (m <+: l)) := by
  unfold pumiceref02_Within.f
  by_cases h : (m.length : Int) > (l.length : Int)
  · rw [if_pos h, decide_eq_false (fun hp => by have := hp.length_le; omega)]
  · rw [if_neg h]
    exact within_l0 l m (by omega) hl m.length k 0 (by omega) (by omega) (by omega)
theorem orders_plain (a b : ByteArray) (l m : List ByteArray) (S : Nat) (ha : a.size ≤ 4000000000000000000) (hb : b.size ≤ 4000000000000000000) (hl : l.length ≤ 8796093022207) (hS : ∀ x ∈ l, x.size ≤ S) (hS2 : S ≤ 4000000000000000000)
    {k : Nat} (hk : l.length * (l.length + 2) + 2 * S + 2 * a.size + l.length + 100 ≤ k) : pumicelaw02_NamesOrders.f k a b l m = some true := by
  have h1 := alive_f (k := k) (by omega)
  have hT := texts_f (l := sortT l) (by rw [sortT_len]; omega) (k := k) (by rw [sortT_len]; omega)
  have hT2 := texts_f (l := l) (by omega) (k := k) (by omega)
  have hs : names_Sort.f ([] ++ l) = some (sortT l) := by unfold names_Sort.f; rw [List.nil_append, if_pos (by omega)]
  have hw : names_Within.f l m = some (decide (m <+: l)) := rfl
  unfold pumicelaw02_NamesOrders.f
  rw [Option.bind_some, if_pos (by rw [List.length_nil]; omega), Option.bind_some, less_eq, Option.bind_some, ref_less a b ha hb (by omega), Option.bind_some, if_pos (beq_self_eq_true _), hs, Option.bind_some, ref_sort l S hl hS hS2 (by omega), Option.bind_some, hT, Option.bind_some, if_pos rfl, List.nil_append, hT2, Option.bind_some, if_pos rfl, hw, Option.bind_some, ref_within l m (by omega) (by omega), Option.bind_some, if_pos (beq_self_eq_true _), h1]
  rfl
end Go.Proofs.YthcooheghekplaaDoor.Q
