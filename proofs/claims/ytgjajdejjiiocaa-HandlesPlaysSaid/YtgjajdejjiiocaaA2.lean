/- HandlesApart, plain: what is done with the second handle leaves the first. -/
import Derived.Test.YtgjajdejjiiocaaH11
namespace Go.Proofs.Ytgjajdejjiiocaa.Q
open Go.RowKit Go.Proofs.YtgjajdejjiiocaaW.PrintWords Go.Proofs.YtgjajdejjiiocaaW.PrintLast Go.Proofs.Ytgjajdejjiiocaa.Sep
set_option linter.unusedVariables false
set_option linter.unusedSimpArgs false
/-- Both handles are open. -/
def Two (S : List (Option Fl)) (ino fl : Int) : Prop := S.length = 32 ∧ Offs S ∧ S[0]? = some (some (ino, fl, 0)) ∧ ∃ o, S[1]? = some (some (ino, fl, o))
theorem openS_offs {S : List (Option Fl)} (h : Offs S) (i f : Int) : Offs (openS S i f).1 := by
  unfold openS
  split
  · exact h
  · split
    · exact h
    · split
      · exact offs_set h _ _ (by simp)
      · exact h
theorem openS_len (S : List (Option Fl)) (i f : Int) : (openS S i f).1.length = S.length := by
  unfold openS
  split
  · rfl
  · split
    · rfl
    · split
      · simp
      · rfl
theorem openS_old {S : List (Option Fl)} {k : Nat} {g : Fl} (i f : Int) (hk : k < leastN S) (h : S[k]? = some (some g)) : (openS S i f).1[k]? = some (some g) := by
  unfold openS
  split
  · exact h
  · split
    · exact h
    · split
      · rw [List.getElem?_set, if_neg (by omega)]
        exact h
      · exact h
theorem Two.opened {S : List (Option Fl)} {ino fl : Int} (h : Two S ino fl) (i f : Int) : Two (openS S i f).1 ino fl := by
  obtain ⟨h1, h2, h3, o, h4⟩ := h
  have l1 := leastN_some h3 (Nat.zero_le _)
  have l2 := leastN_some h4 l1
  exact ⟨by rw [openS_len]; exact h1, openS_offs h2 i f, openS_old i f (by omega) h3, o, openS_old i f (by omega) h4⟩
theorem Two.sought {S : List (Option Fl)} {ino fl : Int} (h : Two S ino fl) (n wh z : Int) : Two (seekS S 1 n wh z).1 ino fl := by
  obtain ⟨h1, h2, h3, o, h4⟩ := h
  have e := seekS_yes n wh z h4
  rw [show ((1 : Nat) : Int) = 1 from rfl] at e
  rw [e]
  split
  · rename_i hg
    have hd : 0 ≤ dest o n wh z ∧ dest o n wh z ≤ 16384 := by
      unfold goodD at hg
      simp only [Bool.and_eq_true] at hg
      exact (okO_iff _).1 hg.2
    refine ⟨by simp [h1], offs_set h2 _ _ hd, ?_, dest o n wh z, ?_⟩
    · rw [List.getElem?_set, if_neg (by decide)]
      exact h3
    · rw [List.getElem?_set, if_pos rfl, if_pos (by rw [h1]; decide)]
  · exact ⟨h1, h2, h3, o, h4⟩
theorem Two.moved {S : List (Option Fl)} {ino fl : Int} (h : Two S ino fl) (n : Int) : Two (moveS S 1 n).1 ino fl := h.sought n 1 0
theorem Two.get0 {S : List (Option Fl)} {ino fl : Int} (h : Two S ino fl) : getS S 0 = ((ino, fl, 0), 0) := getS_yes (k := 0) h.2.2.1
theorem Two.get1 {S : List (Option Fl)} {ino fl : Int} (h : Two S ino fl) : ∃ o, 0 ≤ o ∧ o ≤ 16384 ∧ getS S 1 = ((ino, fl, o), 0) := by
  obtain ⟨h1, h2, h3, o, h4⟩ := h
  exact ⟨o, (h2 1 _ h4).1, (h2 1 _ h4).2, getS_yes (k := 1) h4⟩
theorem users_mono {S : List (Option Fl)} (hl : S.length = 32) (ino : Int) : ∀ k j, j ≤ k → k ≤ 32 → usersTo S ino j ≤ usersTo S ino k
  | 0, j, hj, _ => by rw [show j = 0 by omega]; exact Nat.le_refl _
  | k + 1, j, hj, hk => by
    by_cases e : j = k + 1
    · rw [e]; exact Nat.le_refl _
    · have ih := users_mono hl ino k j (by omega) (by omega)
      have : S[k]? = some S[k] := List.getElem?_eq_getElem (by omega)
      cases hx : S[k] with
      | none => rw [hx] at this; rw [usersTo_none ino this]; exact ih
      | some f => rw [hx] at this; rw [usersTo_some ino this]; omega
theorem Two.users {S : List (Option Fl)} {ino fl : Int} (h : Two S ino fl) : 2 ≤ usersTo S ino 32 := by
  obtain ⟨h1, h2, h3, o, h4⟩ := h
  have := users_mono h1 ino 32 2 (by omega) (by omega)
  have a : usersTo S ino 1 = usersTo S ino 0 + 1 := (usersTo_some (k := 0) ino h3).trans (by rw [if_pos rfl])
  have b : usersTo S ino 2 = usersTo S ino 1 + 1 := (usersTo_some (k := 1) ino h4).trans (by rw [if_pos rfl])
  omega
theorem Two.shut {S : List (Option Fl)} {ino fl : Int} (h : Two S ino fl) : closeS S 1 = (S.set 1 none, ino, false, 0) := by
  obtain ⟨h1, h2, h3, o, h4⟩ := h
  have e := closeS_yes (k := 1) (getS_yes (k := 1) h4)
  rw [show ((1 : Nat) : Int) = 1 from rfl] at e
  rw [e]
  have h3' : (S.set 1 none)[0]? = some (some (ino, fl, 0)) := by
    rw [List.getElem?_set, if_neg (by decide)]
    exact h3
  have a : usersTo (S.set 1 none) ino 1 = usersTo (S.set 1 none) ino 0 + 1 := (usersTo_some (k := 0) ino h3').trans (by rw [if_pos rfl])
  have b := users_mono (S := S.set 1 none) (by simp [h1]) ino 32 1 (by omega) (by omega)
  have : ((((usersTo (S.set 1 none) ino 32 : Nat) : Int)) == 0) = false := by
    rw [beq_eq_false_iff_ne]
    omega
  simp only
  rw [this]
theorem Two.after {S : List (Option Fl)} {ino fl : Int} (h : Two S ino fl) : getS (S.set 1 none) 0 = ((ino, fl, 0), 0) ∧ getS (S.set 1 none) 1 = ((0, 0, 0), 9) := by
  obtain ⟨h1, h2, h3, o, h4⟩ := h
  constructor
  · refine getS_yes (k := 0) ?_
    rw [List.getElem?_set, if_neg (by decide)]
    exact h3
  · refine getS_none (k := 1) ?_
    rw [List.getElem?_set, if_pos rfl, if_pos (by rw [h1]; decide)]
/-- Both are opened, or both refused. -/
theorem two_opens (ino fl : Int) : (openS S0 ino fl = (S0, 0, 22)) ∨ ∃ Sa, openS S0 ino fl = (Sa, 0, 0) ∧ ∃ Sb, openS Sa ino fl = (Sb, 1, 0) ∧ Two Sb ino fl := by
  rcases flags_e fl with h | h
  rotate_left
  · left
    unfold openS
    rw [h, if_pos (by decide)]
  by_cases hi : ino < 1 ∨ 4096 < ino
  · left
    unfold openS
    rw [h, if_neg (by decide), if_pos hi]
  right
  have l0 : leastN S0 = 0 := by decide
  have e1 : openS S0 ino fl = (S0.set 0 (some (ino, fl, 0)), 0, 0) := by
    unfold openS
    rw [h, if_neg (by decide), if_neg hi, l0, if_pos (by decide)]
    rfl
  have g0 : (S0.set 0 (some (ino, fl, 0)))[0]? = some (some (ino, fl, 0)) := by
    rw [List.getElem?_set, if_pos rfl, if_pos (by decide)]
  have g1 : (S0.set 0 (some (ino, fl, 0)))[1]? = some none := by
    rw [List.getElem?_set, if_neg (by decide)]
    decide
  have l1 : leastN (S0.set 0 (some (ino, fl, 0))) = 1 := (leastN_none g1 (leastN_some g0 (Nat.zero_le _))).symm
  have e2 : openS (S0.set 0 (some (ino, fl, 0))) ino fl = ((S0.set 0 (some (ino, fl, 0))).set 1 (some (ino, fl, 0)), 1, 0) := by
    unfold openS
    rw [h, if_neg (by decide), if_neg hi, l1, if_pos (by decide)]
    rfl
  refine ⟨_, e1, _, e2, ?_, offs_set (offs_set offs0 _ _ (by simp)) _ _ (by simp), ?_, 0, ?_⟩
  · simp [S0]
  · rw [List.getElem?_set, if_neg (by decide)]
    exact g0
  · rw [List.getElem?_set, if_pos rfl, if_pos (by simp [S0])]
end Go.Proofs.Ytgjajdejjiiocaa.Q
