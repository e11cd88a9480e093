/- slices.Clone over texts. -/
import Derived.Test.YthcooheghekplaaDoorH3
import Derived.Test.YthcooheghekplaaDoorH2c
import Derived.Test.YthcooheghekplaaDoorZ0
namespace Go.Proofs.YthcooheghekplaaDoor.Z
open Go.RowKit Go.Shelf Go.Proofs.YthcooheghekplaaDoorW.PrintWords Go.Proofs.YthcooheghekplaaDoor.Cut
set_option linter.unusedVariables false
set_option linter.unusedSimpArgs false
def slices_Clone.f (l0 : List ByteArray) : Option (List ByteArray) := if l0.length ≤ 8796093022207 then some l0 else none
theorem slices_Clone.calls (A0 : Option Addr) (c0 : Nat) (l0 : List ByteArray) (r : List ByteArray) (w : World) (hr0 : Kd.C Kd.string w A0 l0.length l0) (hc0 : l0.length ≤ c0) (h : slices_Clone.f l0 = some r) :
    Calls Tryd.prog 37 #[.slice A0 l0.length c0] w fun e w' => ∃ v0_ : Value, e = .returned v0_ ∧ Kd.R Kd.string 9 w' w.heap.size (fun _ => True) v0_ r ∧ Below w.heap.size w w' := by
  unfold slices_Clone.f at h
  split at h
  · rename_i hl
    cases h
    cases A0 with
    | none =>
      have hz : l0 = [] := by
        cases l0 with
        | nil => rfl
        | cons x xs =>
          obtain ⟨q, o, hq⟩ := Q.texts_at hr0
          exact absurd (hq 0 x rfl).1 (by simp)
      subst hz
      refine (Any.slices_Clone_string_nil Tryd.laysClone 0 c0 w).mono ?_
      rintro e w' ⟨rfl, rfl⟩
      exact ⟨_, rfl, Kd.R_of_own (World.ownsRow_nil _ _ _ _) (fun _ _ => trivial), Below.refl _ _⟩
    | some a =>
      cases l0 with
      | nil =>
        refine (Any.slices_Clone_string_zero Tryd.laysClone a c0 w).mono ?_
        rintro e w' ⟨v, rfl, ho, _, hb⟩
        exact ⟨v, rfl, Kd.R_of_own ho (fun _ _ => trivial), hb⟩
      | cons x xs =>
        obtain ⟨q, o, hq⟩ := Q.texts_at hr0
        obtain ⟨he, _⟩ := hq 0 x rfl
        cases he
        refine (Any.slices_Clone_string Tryd.laysClone q o (x :: xs).length c0 (x :: xs) w (Nat.le_refl _) (by omega) (fun j hj => ?_)).mono ?_
        · rw [List.getD_eq_getElem?_getD, List.getElem?_eq_getElem hj]
          exact (hq j _ (List.getElem?_eq_getElem hj)).2
        · rintro e w' ⟨v, rfl, ho, _, hb⟩
          rw [List.take_length] at ho
          exact ⟨v, rfl, Kd.R_of_own ho (fun _ _ => trivial), hb⟩
  · cases h
end Go.Proofs.YthcooheghekplaaDoor.Z
