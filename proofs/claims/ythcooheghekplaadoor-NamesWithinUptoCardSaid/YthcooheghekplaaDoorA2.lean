/- Plain: NamesWithin, the two lists together of no more elements than fit. -/
import Derived.Test.YthcooheghekplaaDoorA1
namespace Go.Proofs.YthcooheghekplaaDoor.Q
open Go.RowKit Go.Proofs.YthcooheghekplaaDoorW.PrintWords Go.Proofs.YthcooheghekplaaDoorW.PrintLast Go.Proofs.YthcooheghekplaaDoorW.PrintMore Go.Proofs.YthcooheghekplaaDoor.Cut
set_option linter.unusedVariables false
set_option linter.unusedSimpArgs false
theorem within_j0 (l0 l1 : List ByteArray) (hl : l0.length + l1.length < 8796093022208) {k : Nat} (hk : 50 ≤ k) : pumicelaw02_NamesWithin.j0 k l0 l1 false = some true := by
  obtain ⟨j, rfl⟩ : ∃ j, k = j + 1 := ⟨k - 1, by omega⟩
  have ha := alive_f (k := j) (by omega)
  have hw : names_Within.f (([] ++ l0) ++ l1) l0 = some true := by unfold names_Within.f; rw [List.nil_append, decide_eq_true (List.prefix_append l0 l1)]
  rw [pumicelaw02_NamesWithin.j0, if_neg (by decide), Option.bind_some, if_pos (by rw [List.length_nil]; omega), Option.bind_some, if_pos (by rw [List.nil_append]; omega), hw, Option.bind_some, if_pos rfl, ha]
  rfl
theorem within_plain (l0 l1 l2 : List ByteArray) (hl : l0.length + l1.length < 8796093022208) {k : Nat} (hk : l0.length + 60 ≤ k) : pumicelaw02_NamesWithin.f k l0 l1 l2 = some true := by
  have hj := within_j0 l0 l1 hl (k := k) (by omega)
  have h00 : names_Within.f l0 l0 = some true := by unfold names_Within.f; rw [decide_eq_true List.prefix_rfl]
  have hT : l1 <+: l0 → l0 <+: l1 → pumicelaw02_Texts.f k l0 l1 = some true := by
    intro h1 h2
    have e : l1 = l0 := h1.eq_of_length_le h2.length_le
    subst e
    exact texts_f (by omega) (by omega)
  have hb : ∀ x y, names_Within.f x y = some (decide (y <+: x)) := fun _ _ => rfl
  unfold pumicelaw02_NamesWithin.f
  rw [h00, Option.bind_some, if_pos rfl]
  simp only [hb, Option.bind_some]
  by_cases h1 : l1 <+: l0
  · by_cases h2 : l0 <+: l1
    · have ht := hT h1 h2
      by_cases h3 : l2 <+: l1
      · simp [h1, h2, h3, h3.trans h1, ht, hj]
      · simp [h1, h2, h3, ht, hj]
    · by_cases h3 : l2 <+: l1
      · simp [h1, h2, h3, h3.trans h1, hj]
      · simp [h1, h2, h3, hj]
  · simp [h1, hj]
end Go.Proofs.YthcooheghekplaaDoor.Q
