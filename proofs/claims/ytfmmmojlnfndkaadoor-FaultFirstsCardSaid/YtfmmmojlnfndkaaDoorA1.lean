/- Plain: which class an errno has, which of two is worse. No condition. -/
import Derived.Test.YtfmmmojlnfndkaaDoorQ6
namespace Go.Proofs.YtfmmmojlnfndkaaDoor.Q
open Go.RowKit Go.Proofs.YtfmmmojlnfndkaaDoorW.PrintWords Go.Proofs.YtfmmmojlnfndkaaDoorW.PrintLast
theorem up {α : Type} (g : Nat → Option α) (hm : ∀ k, LeO (g k) (g (k + 1))) {r : α} {m : Nat} (h : g m = some r) : ∀ n, m ≤ n → g n = some r := by
  intro n
  induction n with
  | zero => intro hn; obtain rfl : m = 0 := by omega
            exact h
  | succ n ih =>
    intro hn
    rcases Nat.lt_or_ge n m with h1 | h1
    · obtain rfl : m = n + 1 := by omega
      exact h
    · exact hm n r (ih h1)
def cls (a : Int) : Int :=
  if a = 0 then 0
  else if a = 5 ∨ a = 6 ∨ a = 117 ∨ a = 19 then 1
  else if a = 22 ∨ a = 14 ∨ a = 9 ∨ a = 36 ∨ a = 40 then 2
  else if a = 28 ∨ a = 27 ∨ a = 24 ∨ a = 31 then 3
  else if a = 1 ∨ a = 13 ∨ a = 30 then 4
  else if a = 2 ∨ a = 17 ∨ a = 20 ∨ a = 21 ∨ a = 39 ∨ a = 16 then 5
  else 6
def known : List Int := [0, 1, 2, 5, 6, 9, 13, 14, 16, 17, 19, 20, 21, 22, 24, 27, 28, 30, 31, 36, 39, 40, 117]
theorem known_cases {P : Int → Prop} (a : Int) (h : a ∈ known) (h0 : ∀ x ∈ known, P x) : P a := h0 a h
theorem class6 (a : Int) : fault_Class.f 6 a = some (cls a) := by
  by_cases h : a ∈ known
  · simp only [known, List.mem_cons, List.not_mem_nil, or_false] at h
    rcases h with rfl | rfl | rfl | rfl | rfl | rfl | rfl | rfl | rfl | rfl | rfl | rfl | rfl | rfl | rfl | rfl | rfl | rfl | rfl | rfl | rfl | rfl | rfl <;> kernel_rfl
  · simp only [known, List.mem_cons, List.not_mem_nil, or_false, not_or] at h
    simp [fault_Class.f, fault_Class.j0, fault_Class.j1, fault_Class.j2, fault_Class.j3, fault_Class.j4, cls, h]
theorem rclass6 (a : Int) : pumiceref04_Class.f 6 a = some (cls a) := by
  by_cases h : a ∈ known
  · simp only [known, List.mem_cons, List.not_mem_nil, or_false] at h
    rcases h with rfl | rfl | rfl | rfl | rfl | rfl | rfl | rfl | rfl | rfl | rfl | rfl | rfl | rfl | rfl | rfl | rfl | rfl | rfl | rfl | rfl | rfl | rfl <;> kernel_rfl
  · simp only [known, List.mem_cons, List.not_mem_nil, or_false, not_or] at h
    simp [pumiceref04_Class.f, pumiceref04_Class.j0, pumiceref04_Class.j1, pumiceref04_Class.j2, pumiceref04_Class.j3, cls, h]
theorem class_f (k : Nat) (hk : 6 ≤ k) (a : Int) : fault_Class.f k a = some (cls a) := up (fun k => fault_Class.f k a) (fun k => fault_Class.mono a k) (class6 a) k hk
theorem rclass_f (k : Nat) (hk : 6 ≤ k) (a : Int) : pumiceref04_Class.f k a = some (cls a) := up (fun k => pumiceref04_Class.f k a) (fun k => pumiceref04_Class.mono a k) (rclass6 a) k hk
def worse (a b : Int) : Int := if a = 0 then b else if b = 0 then a else if cls a < cls b then a else if cls b < cls a then b else if a ≤ b then a else b
theorem worse_f (k : Nat) (hk : 6 ≤ k) (a b : Int) : fault_Worse.f k a b = some (worse a b) := by
  obtain ⟨j, rfl⟩ : ∃ j, k = j + 1 := ⟨k - 1, by omega⟩
  unfold fault_Worse.f
  rw [class_f _ hk, class_f _ hk]
  simp only [Option.bind_some, fault_Worse.j0, worse, decide_eq_true_eq, gt_iff_lt, mn]
  by_cases h1 : a = 0
  · rw [if_pos h1, if_pos h1]
  · rw [if_neg h1, if_neg h1]
    by_cases h2 : b = 0
    · rw [if_pos h2, if_pos h2, if_pos trivial]
    · rw [if_neg h2, if_neg h2]
      by_cases h3 : cls a < cls b
      · rw [if_pos h3, if_pos h3]
      · rw [if_neg h3, if_neg h3]
        by_cases h4 : cls b < cls a
        · rw [if_pos h4, if_pos h4]
        · rw [if_neg h4, if_neg h4]
          by_cases h5 : a ≤ b
          · rw [if_pos h5, if_neg (by omega)]
          · rw [if_neg h5, if_pos (by omega)]
theorem rworse_f (k : Nat) (hk : 6 ≤ k) (a b : Int) : pumiceref04_Worse.f k a b = some (worse a b) := by
  unfold pumiceref04_Worse.f
  rw [rclass_f _ hk, rclass_f _ hk]
  simp only [Option.bind_some, worse]
  by_cases h1 : a = 0
  · rw [if_pos h1, if_pos h1]
  · rw [if_neg h1, if_neg h1]
    by_cases h2 : b = 0
    · rw [if_pos h2, if_pos h2]
    · rw [if_neg h2, if_neg h2]
      by_cases h3 : cls a < cls b
      · rw [if_pos h3, if_pos h3]
      · rw [if_neg h3, if_neg h3]
        by_cases h4 : cls b < cls a
        · rw [if_pos h4, if_neg (by omega)]
        · rw [if_neg h4, if_pos (by omega)]
          by_cases h5 : a ≤ b
          · rw [if_pos h5, if_pos h5]
          · rw [if_neg h5, if_neg h5]
theorem worse_zero (a : Int) : worse a 0 = a := by
  unfold worse
  by_cases h : a = 0
  · rw [if_pos h, h]
  · rw [if_neg h, if_pos rfl]
theorem worse_zero_left (a : Int) : worse 0 a = a := by unfold worse; rw [if_pos rfl]
theorem worse_or {a b : Int} (ha : a ≠ 0) (hb : b ≠ 0) : (worse a b = a ∧ (cls a < cls b ∨ (cls a = cls b ∧ a ≤ b))) ∨ (worse a b = b ∧ (cls b < cls a ∨ (cls a = cls b ∧ b < a))) := by
  unfold worse
  rw [if_neg ha, if_neg hb]
  by_cases h3 : cls a < cls b
  · rw [if_pos h3]; exact .inl ⟨rfl, .inl h3⟩
  · rw [if_neg h3]
    by_cases h4 : cls b < cls a
    · rw [if_pos h4]; exact .inr ⟨rfl, .inl h4⟩
    · rw [if_neg h4]
      by_cases h5 : a ≤ b
      · rw [if_pos h5]; exact .inl ⟨rfl, .inr ⟨by omega, h5⟩⟩
      · rw [if_neg h5]; exact .inr ⟨rfl, .inr ⟨by omega, by omega⟩⟩
theorem worse_comm (a b : Int) : worse a b = worse b a := by
  by_cases ha : a = 0
  · subst ha; rw [worse_zero, worse_zero_left]
  · by_cases hb : b = 0
    · subst hb; rw [worse_zero, worse_zero_left]
    · rcases worse_or ha hb with ⟨h1, h2⟩ | ⟨h1, h2⟩ <;> rcases worse_or hb ha with ⟨h3, h4⟩ | ⟨h3, h4⟩ <;> rw [h1, h3] <;> omega
theorem worse_pick (a b : Int) : worse a b = a ∨ worse a b = b := by
  by_cases ha : a = 0
  · subst ha; rw [worse_zero_left]; exact .inr rfl
  · by_cases hb : b = 0
    · subst hb; rw [worse_zero]; exact .inl rfl
    · rcases worse_or ha hb with ⟨h1, _⟩ | ⟨h1, _⟩
      · exact .inl h1
      · exact .inr h1
theorem worse_ne {a b : Int} (h : ¬ (a = 0 ∧ b = 0)) : worse a b ≠ 0 := by
  by_cases ha : a = 0
  · subst ha; rw [worse_zero_left]; exact fun e => h ⟨rfl, e⟩
  · by_cases hb : b = 0
    · subst hb; rw [worse_zero]; exact ha
    · rcases worse_pick a b with h1 | h1 <;> rw [h1] <;> assumption
theorem worse_assoc (a b c : Int) : worse (worse a b) c = worse a (worse b c) := by
  by_cases ha : a = 0
  · subst ha; rw [worse_zero_left, worse_zero_left]
  · by_cases hb : b = 0
    · subst hb; rw [worse_zero, worse_zero_left]
    · by_cases hc : c = 0
      · subst hc; rw [worse_zero, worse_zero]
      · rcases worse_or ha hb with ⟨h1, h2⟩ | ⟨h1, h2⟩ <;> rcases worse_or hb hc with ⟨h3, h4⟩ | ⟨h3, h4⟩ <;> rw [h1, h3]
        · rw [h1]; rcases worse_or ha hc with ⟨h5, h6⟩ | ⟨h5, h6⟩ <;> rw [h5]; omega
        · rw [h1]
        · rcases worse_or ha hc with ⟨h5, h6⟩ | ⟨h5, h6⟩ <;> rw [h5]; omega
theorem faultWorse_plain (k : Nat) (hk : 6 ≤ k) (a b c : Int) : pumicelaw04_FaultWorse.f k a b c = some true := by
  unfold pumicelaw04_FaultWorse.f alive.f
  simp only [worse_f k hk, Option.bind_some]
  rw [if_pos (worse_comm a b), worse_assoc, if_pos rfl, worse_zero, if_pos rfl]
  have hz : worse a b = 0 → a = 0 ∧ b = 0 := fun h => Classical.byContradiction fun hn => worse_ne hn h
  have hlast : (if worse a b = 0 then if a = 0 then if b = 0 then some true else none else none else some true) = some true := by
    by_cases h : worse a b = 0
    · obtain ⟨h1, h2⟩ := hz h
      rw [if_pos h, if_pos h1, if_pos h2]
    · rw [if_neg h]
  rw [hlast]
  rcases worse_pick a b with h | h
  · rw [if_pos h]
  · rw [if_pos h]
    by_cases h2 : worse a b = a
    · rw [if_pos h2]
    · rw [if_neg h2]
end Go.Proofs.YtfmmmojlnfndkaaDoor.Q
