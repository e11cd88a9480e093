/- Plain: NamesSorted. No condition beside the length. -/
import Derived.Test.YthcooheghekplaaDoorA4
import Derived.Test.YthcooheghekplaaDoorQ7
namespace Go.Proofs.YthcooheghekplaaDoor.Q
open Go.RowKit Go.Proofs.YthcooheghekplaaDoorW.PrintWords Go.Proofs.YthcooheghekplaaDoorW.PrintLast Go.Proofs.YthcooheghekplaaDoorW.PrintMore Go.Proofs.YthcooheghekplaaDoor.Cut
set_option linter.unusedVariables false
set_option linter.unusedSimpArgs false
def cnt (a : ByteArray) (l : List ByteArray) : Nat := l.countP (fun x => decide (x.toList = a.toList))
theorem count_take {l : List ByteArray} {q : Nat} (h : q < l.length) (a : ByteArray) : cnt a (l.take (q + 1)) = cnt a (l.take q) + if l[q].toList = a.toList then 1 else 0 := by
  unfold cnt
  rw [← List.take_append_getElem h, List.countP_append, List.countP_singleton]
  congr 1
  by_cases e : l[q].toList = a.toList
  · rw [decide_eq_true e, if_pos rfl, if_pos e]
  · rw [decide_eq_false e, if_neg (by decide), if_neg e]
theorem count_le (l : List ByteArray) (q : Nat) (a : ByteArray) : cnt a (l.take q) ≤ q := Nat.le_trans (List.countP_le_length ..) (by rw [List.length_take]; omega)
section
variable (l : List ByteArray) (hl : l.length ≤ 8796093022207)
include hl
theorem so_l1 (i : Nat) (hi : i < l.length) : ∀ (d k q : Nat), l.length - q = d → q ≤ l.length → d + 2 ≤ k →
    ∃ k', k ≤ k' + d + 1 ∧ pumicelaw02_NamesSorted.l1 k l (sortT l) (i : Int) ((cnt l[i] (l.take q) : Nat) : Int) ((cnt l[i] ((sortT l).take q) : Nat) : Int) (q : Int) = pumicelaw02_NamesSorted.l0 k' l (sortT l) ((i + 1 : Nat) : Int) := by
  intro d
  have hlen := sortT_len l
  have hil : i < 9000000000000000000 := by omega
  induction d with
  | zero =>
    intro k q h0 h1 h2
    obtain ⟨j, rfl⟩ : ∃ j, k = j + 1 := ⟨k - 1, by omega⟩
    obtain rfl : q = l.length := by omega
    refine ⟨j, by omega, ?_⟩
    have hc : cnt l[i] (l.take l.length) = cnt l[i] ((sortT l).take l.length) := by
      rw [List.take_length]
      conv => rhs; rw [← hlen, List.take_length]
      exact (sortT_perm l).symm.countP_eq _
    have c1 : (i : Int) < ((sortT l).length : Int) := by omega
    have c2 : (0 : Int) ≤ (i : Int) := by omega
    rw [pumicelaw02_NamesSorted.l1, if_neg (by omega), if_pos (by rw [hc])]
    rcases Nat.eq_zero_or_pos i with h | h
    · rw [if_neg (by omega), ws hil]
    · obtain ⟨p, rfl⟩ : ∃ p, i = p + 1 := ⟨i - 1, by omega⟩
      have hw : wrap64 (((p + 1 : Nat) : Int) - 1) = (p : Int) := by rw [w64 _ (by omega)]; omega
      have hp : p + 1 < (sortT l).length := by omega
      have hle : D (sortT l)[p] ≤ D (sortT l)[p + 1] := by
        have h := List.pairwise_iff_getElem.1 (sortT_sorted l) p (p + 1) (by rw [List.length_map]; omega) (by rw [List.length_map]; omega) (by omega)
        simpa using h
      have c3 : (0 : Int) ≤ (p : Int) := Int.natCast_nonneg p
      have c4 : (p : Int) < ((sortT l).length : Int) := Int.ofNat_lt.2 (by omega)
      rw [if_pos (by omega), if_pos c2, if_pos c1, hw, if_pos c3, if_pos c4, rdat hp, rdat (by omega : p < (sortT l).length), less_eq, Option.bind_some, if_neg (by rw [decide_eq_false (List.not_lt.2 hle)]; decide), ws hil]
  | succ d ih =>
    intro k q h0 h1 h2
    obtain ⟨j, rfl⟩ : ∃ j, k = j + 1 := ⟨k - 1, by omega⟩
    have hq : q < l.length := by omega
    have hq' : q < (sortT l).length := by omega
    have hql : q < 9000000000000000000 := by omega
    have c1 : (q : Int) < (l.length : Int) := Int.ofNat_lt.2 hq
    have c2 : (0 : Int) ≤ (q : Int) := Int.natCast_nonneg q
    have c3 : (0 : Int) ≤ (i : Int) := Int.natCast_nonneg i
    have c4 : (i : Int) < (l.length : Int) := Int.ofNat_lt.2 hi
    have c5 : (q : Int) < ((sortT l).length : Int) := Int.ofNat_lt.2 hq'
    have n1 := count_le l q l[i]
    have n2 := count_le (sortT l) q l[i]
    have e1 := count_take hq l[i]
    have e2 := count_take hq' l[i]
    obtain ⟨k', hk', he⟩ := ih j (q + 1) (by omega) (by omega) (by omega)
    refine ⟨k', by omega, Eq.trans ?_ he⟩
    rw [e1, e2, pumicelaw02_NamesSorted.l1, if_pos c1, if_pos c2, if_pos c3, if_pos c4, rdat hq, rdat hi]
    by_cases x1 : l[q].toList = l[i].toList
    · rw [if_pos x1, if_pos c5, rdat hq', if_pos x1]
      by_cases x2 : (sortT l)[q].toList = l[i].toList
      · rw [if_pos x2, if_pos x2, ws (by omega), ws (by omega), ws hql]
      · rw [if_neg x2, if_neg x2, ws (by omega), ws hql]
        simp only [Nat.add_zero]
    · rw [if_neg x1, if_pos c5, rdat hq', if_neg x1]
      by_cases x2 : (sortT l)[q].toList = l[i].toList
      · rw [if_pos x2, if_pos x2, ws (by omega), ws hql]
        simp only [Nat.add_zero]
      · rw [if_neg x2, if_neg x2, ws hql]
        simp only [Nat.add_zero]
theorem so_l0 : ∀ (d k i : Nat), l.length - i = d → i ≤ l.length → d * (l.length + 3) + 60 ≤ k → pumicelaw02_NamesSorted.l0 k l (sortT l) (i : Int) = some true := by
  intro d
  induction d with
  | zero =>
    intro k i h0 h1 h2
    obtain ⟨j, rfl⟩ : ∃ j, k = j + 1 := ⟨k - 1, by omega⟩
    rw [pumicelaw02_NamesSorted.l0, if_neg (by omega), alive_f (by omega)]
    rfl
  | succ d ih =>
    intro k i h0 h1 h2
    obtain ⟨j, rfl⟩ : ∃ j, k = j + 1 := ⟨k - 1, by omega⟩
    have hi : i < l.length := by omega
    rw [Nat.succ_mul] at h2
    obtain ⟨k', hk', he⟩ := so_l1 l hl i hi l.length j 0 (by omega) (by omega) (by omega)
    rw [List.take_zero, List.take_zero, show cnt l[i] [] = 0 from rfl] at he
    rw [pumicelaw02_NamesSorted.l0, if_pos (Int.ofNat_lt.2 hi)]
    exact he.trans (ih k' (i + 1) (by omega) (by omega) (by omega))
theorem so_j0 {k : Nat} (hk : l.length * (l.length + 3) + 61 ≤ k) : pumicelaw02_NamesSorted.j0 k l false = some true := by
  obtain ⟨j, rfl⟩ : ∃ j, k = j + 1 := ⟨k - 1, by omega⟩
  have hs : names_Sort.f l = some (sortT l) := by unfold names_Sort.f; rw [if_pos (by omega)]
  rw [pumicelaw02_NamesSorted.j0, if_neg (by decide), hs, Option.bind_some, if_pos (by rw [sortT_len])]
  exact so_l0 l hl l.length j 0 (by omega) (by omega) (by omega)
theorem sorted_plain (a b c : ByteArray) {k : Nat} (hk : l.length * (l.length + 3) + 61 ≤ k) : pumicelaw02_NamesSorted.f k a b c l = some true := by
  have hj := so_j0 l hl hk
  have haa : decide (D a < D a) = false := decide_eq_false (List.lt_irrefl _)
  have hE : a.toList = b.toList ↔ D a = D b := by rw [tl, tl]
  unfold pumicelaw02_NamesSorted.f
  simp only [less_eq, Option.bind_some, haa]
  by_cases h1 : D a < D b
  · have h2 : ¬ D b < D a := List.lt_asymm h1
    have h3 : ¬ a.toList = b.toList := fun e => by rw [hE.1 e] at h1; exact List.lt_irrefl _ h1
    by_cases h4 : D b < D c
    · simp [h1, h2, h3, h4, List.lt_trans h1 h4, hj]
    · simp [h1, h2, h3, h4, hj]
  · by_cases h2 : D b < D a
    · have h3 : ¬ a.toList = b.toList := fun e => by rw [hE.1 e] at h2; exact List.lt_irrefl _ h2
      simp [h1, h2, h3, hj]
    · have h3 : a.toList = b.toList := hE.2 (List.le_antisymm (List.not_lt.1 h2) (List.not_lt.1 h1))
      simp [h1, h2, h3, hj]
end
end Go.Proofs.YthcooheghekplaaDoor.Q
