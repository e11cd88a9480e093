/- HandlesLeast, plain: tables of which some numbers are shut. -/
import Derived.Test.YtgjajdejjiiocaaH10
namespace Go.Proofs.Ytgjajdejjiiocaa.Q
open Go.RowKit Go.Proofs.YtgjajdejjiiocaaW.PrintWords Go.Proofs.YtgjajdejjiiocaaW.PrintLast Go.Proofs.Ytgjajdejjiiocaa.Sep
set_option linter.unusedVariables false
set_option linter.unusedSimpArgs false
def row (i : Nat) : Option Fl := some ((1 + i : Int), 1, 0)
/-- The first h are open. -/
def SH (h : Nat) : List (Option Fl) := (List.range 32).map fun i => if i < h then row i else none
/-- All but those of G are open. -/
def SG (G : List Int) : List (Option Fl) := (List.range 32).map fun (i : Nat) => if (i : Int) ∈ G then none else row i
theorem SH_get {h i : Nat} (hi : i < 32) : (SH h)[i]? = some (if i < h then row i else none) := by
  unfold SH
  rw [List.getElem?_map, List.getElem?_range hi]
  rfl
theorem SG_get {G : List Int} {i : Nat} (hi : i < 32) : (SG G)[i]? = some (if (i : Int) ∈ G then none else row i) := by
  unfold SG
  rw [List.getElem?_map, List.getElem?_range hi]
  rfl
theorem SH_len (h : Nat) : (SH h).length = 32 := by simp [SH]
theorem SG_len (G : List Int) : (SG G).length = 32 := by simp [SG]
theorem ext32 {A B : List (Option Fl)} (ha : A.length = 32) (hb : B.length = 32) (h : ∀ i, i < 32 → A[i]? = B[i]?) : A = B := by
  apply List.ext_getElem?
  intro i
  by_cases hi : i < 32
  · exact h i hi
  · rw [List.getElem?_eq_none (by omega), List.getElem?_eq_none (by omega)]
theorem SH_zero : SH 0 = S0 := by
  apply ext32 (SH_len 0) rfl
  intro i hi
  rw [SH_get hi, if_neg (by omega)]
  unfold S0
  rw [List.getElem?_replicate, if_pos hi]
theorem SH_all : SH 32 = SG [] := by
  apply ext32 (SH_len 32) (SG_len [])
  intro i hi
  rw [SH_get hi, SG_get hi, if_pos hi, if_neg (by simp)]
/-- The least number that is free. -/
theorem leastN_eq {S : List (Option Fl)} {k : Nat} (h : ∀ j, j < k → ∃ f, S[j]? = some (some f)) (hk : S[k]? = some none ∨ S.length = k) : leastN S = k := by
  have h1 : ∀ j, j ≤ k → j ≤ leastN S := by
    intro j
    induction j with
    | zero => intro _; omega
    | succ j ih =>
      intro hj
      obtain ⟨f, hf⟩ := h j (by omega)
      exact leastN_some hf (ih (by omega))
  have h2 := h1 k (Nat.le_refl _)
  rcases hk with hk | hk
  · exact (leastN_none hk h2).symm
  · have := leastN_le S
    omega
theorem leastN_SH {h : Nat} (hh : h ≤ 32) : leastN (SH h) = h := by
  refine leastN_eq (fun j hj => ?_) ?_
  · rw [SH_get (by omega), if_pos hj]
    exact ⟨_, rfl⟩
  · by_cases e : h = 32
    · exact .inr (by rw [SH_len, e])
    · refine .inl ?_
      rw [SH_get (by omega), if_neg (by omega)]
theorem fl1 : flagsE 1 = 0 := by decide +kernel
theorem fl2 : flagsE 2 = 0 := by decide +kernel
theorem open_SH {h : Nat} (hh : h < 32) : openS (SH h) (1 + (h : Int)) 1 = (SH (h + 1), (h : Int), 0) := by
  unfold openS
  rw [fl1, if_neg (by decide), if_neg (by omega), leastN_SH (by omega), if_pos hh]
  have : (SH h).set h (some (1 + (h : Int), 1, 0)) = SH (h + 1) := by
    apply ext32 (by simp [SH_len]) (SH_len _)
    intro i hi
    rw [List.getElem?_set, SH_get hi, SH_get hi, SH_len]
    by_cases e : h = i
    · subst e
      rw [if_pos rfl, if_pos hi, if_pos (by omega)]
      rfl
    · rw [if_neg e]
      by_cases e2 : i < h
      · rw [if_pos e2, if_pos (by omega)]
      · rw [if_neg e2, if_neg (by omega)]
  rw [this]
theorem open_full : openS (SG []) 1 1 = (SG [], 0, 24) := by
  unfold openS
  rw [fl1, if_neg (by decide), if_neg (by omega), ← SH_all, leastN_SH (Nat.le_refl _), if_neg (by omega)]
/-- What is shut: numbers that may be, each once. -/
def Gone (G : List Int) : Prop := G.Nodup ∧ ∀ x ∈ G, 0 ≤ x ∧ x < 32
theorem getS_gone {G : List Int} {x : Int} (h : x < 0 ∨ 32 ≤ x ∨ x ∈ G) : getS (SG G) x = ((0, 0, 0), 9) := by
  by_cases hx : 0 ≤ x ∧ x < 32
  · obtain ⟨k, rfl⟩ := Int.eq_ofNat_of_zero_le hx.1
    refine getS_none ?_
    rw [SG_get (by omega), if_pos (by rcases h with h | h | h <;> first | omega | exact h)]
  · exact getS_out (SG_len G) (by omega)
theorem close_gone {G : List Int} {x : Int} (h : x < 0 ∨ 32 ≤ x ∨ x ∈ G) : closeS (SG G) x = (SG G, 0, false, 9) := closeS_no (getS_gone h)
theorem users_zero {S : List (Option Fl)} (ino : Int) : ∀ k, (∀ j f, j < k → S[j]? = some (some f) → f.1 ≠ ino) → (∀ j, j < k → ∃ o, S[j]? = some o) → usersTo S ino k = 0
  | 0, _, _ => rfl
  | k + 1, h, h2 => by
    have ih := users_zero ino k (fun j f hj => h j f (by omega)) (fun j hj => h2 j (by omega))
    obtain ⟨o, ho⟩ := h2 k (by omega)
    cases o with
    | none => rw [usersTo_none ino ho, ih]
    | some f => rw [usersTo_some ino ho, ih, if_neg (h k f (by omega) ho)]
theorem close_there {G : List Int} {k : Nat} (hk : k < 32) (hG : (k : Int) ∉ G) : closeS (SG G) k = (SG (G ++ [(k : Int)]), 1 + (k : Int), true, 0) := by
  have hg : getS (SG G) k = ((1 + (k : Int), 1, 0), 0) := getS_yes (by rw [SG_get hk, if_neg hG]; rfl)
  rw [closeS_yes hg]
  have hs : (SG G).set k none = SG (G ++ [(k : Int)]) := by
    apply ext32 (by simp [SG_len]) (SG_len _)
    intro i hi
    rw [List.getElem?_set, SG_get hi, SG_get hi, SG_len]
    by_cases e : k = i
    · subst e
      rw [if_pos rfl, if_pos hi, if_pos (by simp)]
    · rw [if_neg e]
      by_cases e2 : (i : Int) ∈ G
      · rw [if_pos e2, if_pos (by simp [e2])]
      · rw [if_neg e2, if_neg (by simp [e2]; omega)]
  rw [hs]
  have hu : usersTo (SG (G ++ [(k : Int)])) (1 + (k : Int)) 32 = 0 := by
    refine users_zero _ 32 (fun j f hj hf e => ?_) (fun j hj => ⟨_, SG_get hj⟩)
    rw [SG_get hj] at hf
    split at hf
    · cases hf
    · rename_i hn
      simp only [row, Option.some.injEq] at hf
      subst hf
      simp only at e
      have : j = k := by omega
      subst this
      exact hn (by simp)
  rw [hu]
  rfl
/-- The least of what is shut, or 32. -/
def leastG (G : List Int) : Int := G.foldl min 32
theorem leastG_snoc (G : List Int) (x : Int) : leastG (G ++ [x]) = min (leastG G) x := by unfold leastG; rw [List.foldl_append]; rfl
theorem foldl_min (G : List Int) : ∀ a : Int, G.foldl min a ≤ a ∧ (∀ x ∈ G, G.foldl min a ≤ x) ∧ (G.foldl min a = a ∨ G.foldl min a ∈ G) := by
  induction G with
  | nil => intro a; exact ⟨Int.le_refl _, by simp, .inl rfl⟩
  | cons y G ih =>
    intro a
    obtain ⟨h1, h2, h3⟩ := ih (min a y)
    rw [List.foldl_cons]
    refine ⟨by omega, ?_, ?_⟩
    · intro x hx
      rcases List.mem_cons.1 hx with rfl | hx
      · omega
      · exact h2 x hx
    · rcases h3 with h3 | h3
      · rw [h3]
        by_cases e : a ≤ y
        · left; omega
        · right; rw [show min a y = y by omega]; exact List.mem_cons_self
      · right; exact List.mem_cons_of_mem _ h3
theorem leastG_range {G : List Int} (h : Gone G) : 0 ≤ leastG G ∧ leastG G ≤ 32 := by
  obtain ⟨h1, h2, h3⟩ := foldl_min G 32
  refine ⟨?_, h1⟩
  unfold leastG
  rcases h3 with h3 | h3
  · omega
  · exact (h.2 _ h3).1
theorem leastN_SG {G : List Int} (h : Gone G) : (leastN (SG G) : Int) = leastG G := by
  obtain ⟨h1, h2, h3⟩ := foldl_min G 32
  obtain ⟨r1, r2⟩ := leastG_range h
  obtain ⟨m, hm⟩ := Int.eq_ofNat_of_zero_le r1
  have hm2 : G.foldl min 32 = (m : Int) := hm
  rw [hm]
  congr 1
  refine leastN_eq (fun j hj => ?_) ?_
  · rw [SG_get (by omega), if_neg]
    · exact ⟨_, rfl⟩
    · intro hj2
      have := h2 _ hj2
      omega
  · rcases h3 with h3 | h3
    · exact .inr (by rw [SG_len]; omega)
    · refine .inl ?_
      have := h.2 _ h3
      rw [hm2] at h3 this
      rw [SG_get (by omega), if_pos h3]
theorem open_SG {G : List Int} (h : Gone G) : openS (SG G) 7 2 = if leastG G < 32 then ((SG G).set (leastN (SG G)) (some (7, 2, 0)), leastG G, 0) else (SG G, 0, 24) := by
  unfold openS
  rw [fl2, if_neg (by decide), if_neg (by omega)]
  have := leastN_SG h
  by_cases e : leastG G < 32
  · rw [if_pos e, if_pos (by omega), this]
  · rw [if_neg e, if_neg (by omega)]
theorem leastG_lt {G : List Int} (h : Gone G) : leastG G < 32 ↔ G ≠ [] := by
  obtain ⟨h1, h2, h3⟩ := foldl_min G 32
  constructor
  · rintro h rfl
    simp [leastG] at h
  · intro hne
    cases G with
    | nil => exact (hne rfl).elim
    | cons y G =>
      have := h2 y List.mem_cons_self
      have := (h.2 y List.mem_cons_self).2
      unfold leastG
      omega
theorem count_one {G : List Int} {k : Int} (h : G.Nodup) (hk : k ∈ G) : G.count k = 1 := by
  induction G with
  | nil => cases hk
  | cons x G ih =>
    rw [List.nodup_cons] at h
    rw [List.count_cons]
    rcases List.mem_cons.1 hk with rfl | hk
    · rw [List.count_eq_zero_of_not_mem h.1, if_pos (by simp)]
    · rw [ih h.2 hk, if_neg]
      intro e
      have : x = k := by simpa using e
      exact h.1 (this ▸ hk)
theorem below_count (G : List Int) (k : Int) : (G.countP (fun x => decide (x < k + 1))) = G.countP (fun x => decide (x < k)) + G.count k := by
  induction G with
  | nil => rfl
  | cons x G ih =>
    rw [List.countP_cons, List.countP_cons, List.count_cons, ih]
    by_cases a : x < k
    · have : x < k + 1 := by omega
      have : (x == k) = false := by simp; omega
      simp [*]
      omega
    · by_cases b : x = k
      · subst b
        rw [if_pos (decide_eq_true (by omega)), if_neg (by simp), if_pos (by simp)]
        omega
      · have : ¬ x < k + 1 := by omega
        simp [*]
theorem nums_SG {G : List Int} (h : Gone G) : ∀ k, k ≤ 32 → (numsTo (SG G) k).length + G.countP (fun x => decide (x < (k : Int))) = k
  | 0, _ => by
    have : G.countP (fun x => decide (x < ((0 : Nat) : Int))) = 0 := by
      rw [List.countP_eq_zero]
      intro x hx
      have := (h.2 x hx).1
      simp
      omega
    rw [this]
    rfl
  | k + 1, hk => by
    have ih := nums_SG h k (by omega)
    have hb := below_count G k
    have hg := SG_get (G := G) (i := k) (by omega)
    rw [Int.natCast_add, Int.natCast_one, hb]
    by_cases e : (k : Int) ∈ G
    · rw [if_pos e] at hg
      rw [numsTo_none hg]
      have : G.count (k : Int) = 1 := count_one h.1 e
      omega
    · rw [if_neg e] at hg
      rw [numsTo_some hg, List.length_append]
      have : G.count (k : Int) = 0 := List.count_eq_zero_of_not_mem e
      simp only [List.length_cons, List.length_nil]
      omega
theorem nums_len {G : List Int} (h : Gone G) : ((numsTo (SG G) 32).length : Int) = 32 - (G.length : Int) := by
  have h1 := nums_SG h 32 (Nat.le_refl _)
  have h2 : G.countP (fun x => decide (x < ((32 : Nat) : Int))) = G.length := by
    rw [List.countP_eq_length]
    intro x hx
    have := (h.2 x hx).2
    simp
    omega
  omega
theorem gone_len {G : List Int} (h : Gone G) : G.length ≤ 32 := by
  have := nums_len h
  omega
theorem gone_snoc {G : List Int} {k : Nat} (h : Gone G) (hk : k < 32) (hG : (k : Int) ∉ G) : Gone (G ++ [(k : Int)]) := by
  refine ⟨?_, ?_⟩
  · rw [List.nodup_append]
    refine ⟨h.1, by simp, ?_⟩
    rintro x hx y hy rfl
    simp at hy
    subst hy
    exact hG hx
  · intro x hx
    rcases List.mem_append.1 hx with hx | hx
    · exact h.2 x hx
    · simp at hx
      omega
theorem gone_nil : Gone [] := ⟨by simp, by simp⟩
end Go.Proofs.Ytgjajdejjiiocaa.Q
