/- Plain: Less, Sort: NamesOrders, NamesSorted. No condition beside the lengths. -/
import Derived.Test.YthcooheghekplaaDoorA4b
namespace Go.Proofs.YthcooheghekplaaDoor.Q
open Go.RowKit Go.Proofs.YthcooheghekplaaDoorW.PrintWords Go.Proofs.YthcooheghekplaaDoorW.PrintLast Go.Proofs.YthcooheghekplaaDoorW.PrintMore Go.Proofs.YthcooheghekplaaDoor.Cut
set_option linter.unusedVariables false
set_option linter.unusedSimpArgs false
section
variable (l : List ByteArray) (S : Nat) (hl : l.length ≤ 8796093022207) (hS : ∀ x ∈ l, x.size ≤ S) (hS2 : S ≤ 4000000000000000000)
include hl hS hS2
theorem sort_l1 (i : Nat) (hi : i < l.length) : ∀ (d k q : Nat) (out acc : List ByteArray) (done : Bool), out.length - q = d → q ≤ out.length → out.length ≤ i → acc.length + d ≤ i + 1 → (done = false → acc.length + d ≤ i) → (∀ x ∈ out, x.size ≤ S) → d + 2 * S + 6 ≤ k →
    ∃ k', k ≤ k' + d + 1 ∧ pumiceref02_Sort.l1 k l out (i : Int) acc done (q : Int) = pumiceref02_Sort.l0 k' l (acc ++ if done then out.drop q else ins l[i] (out.drop q)) ((i + 1 : Nat) : Int) := by
  intro d
  have hil : i < 9000000000000000000 := by omega
  induction d with
  | zero =>
    intro k q out acc done h0 h1 h2 h3 h4 h5 h6
    obtain ⟨j, rfl⟩ : ∃ j, k = j + 1 := ⟨k - 1, by omega⟩
    refine ⟨j, by omega, ?_⟩
    rw [pumiceref02_Sort.l1, if_neg (by omega), List.drop_of_length_le (by omega)]
    cases done with
    | true => rw [if_pos rfl, if_pos rfl, ws hil, List.append_nil]
    | false =>
      have := h4 rfl
      rw [if_neg (by decide), if_pos (by omega), if_pos (by omega), rdat hi, if_pos (by omega), ws hil, if_neg (by decide)]
      rfl
  | succ d ih =>
    intro k q out acc done h0 h1 h2 h3 h4 h5 h6
    obtain ⟨j, rfl⟩ : ∃ j, k = j + 1 := ⟨k - 1, by omega⟩
    have hq : q < out.length := by omega
    have hql : q < 9000000000000000000 := by omega
    have c1 : (q : Int) < (out.length : Int) := by omega
    have c2 : (0 : Int) ≤ (q : Int) := by omega
    have c3 : (0 : Int) ≤ (i : Int) := by omega
    have c4 : (i : Int) < (l.length : Int) := by omega
    have c5 : acc.length < 8796093022208 := by omega
    rw [pumiceref02_Sort.l1, if_pos c1, rdat hq, ws hql, rdat hi, List.drop_eq_getElem_cons hq]
    cases done with
    | true =>
      rw [if_pos rfl, if_pos c2, if_pos c5]
      obtain ⟨k', hk', he⟩ := ih j (q + 1) out (acc ++ [out[q]]) true (by omega) (by omega) h2 (by rw [List.length_append, List.length_singleton]; omega) (by intro h; cases h) h5 (by omega)
      refine ⟨k', by omega, he.trans ?_⟩
      rw [if_pos rfl, if_pos rfl, List.append_assoc]
      rfl
    | false =>
      have h4' := h4 rfl
      have hs1 := hS l[i] (List.getElem_mem hi)
      have hs2 := h5 out[q] (List.getElem_mem hq)
      rw [if_neg (by decide), if_pos c3, if_pos c4, if_pos c2, ref_less _ _ (by omega) (by omega) (by omega), Option.bind_some]
      by_cases c : D l[i] < D out[q]
      · rw [if_pos (decide_eq_true c), if_pos c5, Option.bind_some, if_pos (by rw [List.length_append, List.length_singleton]; omega)]
        obtain ⟨k', hk', he⟩ := ih j (q + 1) out (acc ++ [l[i]] ++ [out[q]]) true (by omega) (by omega) h2 (by rw [List.length_append, List.length_append, List.length_singleton, List.length_singleton]; omega) (by intro h; cases h) h5 (by omega)
        refine ⟨k', by omega, he.trans ?_⟩
        rw [if_pos rfl, if_neg (by decide), ins, if_pos c, List.append_assoc, List.append_assoc]
        rfl
      · rw [if_neg (by rw [decide_eq_false c]; decide), if_pos c5]
        obtain ⟨k', hk', he⟩ := ih j (q + 1) out (acc ++ [out[q]]) false (by omega) (by omega) h2 (by rw [List.length_append, List.length_singleton]; omega) (fun _ => by rw [List.length_append, List.length_singleton]; omega) h5 (by omega)
        refine ⟨k', by omega, he.trans ?_⟩
        rw [if_neg (by decide), if_neg (by decide), ins, if_neg c, List.append_assoc]
        rfl
theorem sort_l0 : ∀ (d k i : Nat) (out : List ByteArray), l.length - i = d → i ≤ l.length → out.length = i → (∀ x ∈ out, x.size ≤ S) → d * (l.length + 2) + 2 * S + 10 ≤ k →
    pumiceref02_Sort.l0 k l out (i : Int) = some (refSort (l.drop i) out) := by
  intro d
  induction d with
  | zero =>
    intro k i out h0 h1 h2 h3 h4
    obtain ⟨j, rfl⟩ : ∃ j, k = j + 1 := ⟨k - 1, by omega⟩
    rw [pumiceref02_Sort.l0, if_neg (by omega), List.drop_of_length_le (by omega)]
    rfl
  | succ d ih =>
    intro k i out h0 h1 h2 h3 h4
    obtain ⟨j, rfl⟩ : ∃ j, k = j + 1 := ⟨k - 1, by omega⟩
    have hi : i < l.length := by omega
    rw [Nat.succ_mul] at h4
    rw [pumiceref02_Sort.l0, if_pos (by omega)]
    obtain ⟨k', hk', he⟩ := sort_l1 l S hl hS hS2 i hi out.length j 0 out [] false (by omega) (by omega) (by omega) (by rw [List.length_nil]; omega) (fun _ => by rw [List.length_nil]; omega) h3 (by omega)
    refine he.trans ?_
    rw [if_neg (by decide), List.drop_zero, List.nil_append]
    rw [ih k' (i + 1) (ins l[i] out) (by omega) (by omega) (by rw [ins_len]; omega) (fun x hx => by
      rcases List.mem_cons.1 ((ins_perm _ _).mem_iff.1 hx) with rfl | hx
      · exact hS _ (List.getElem_mem hi)
      · exact h3 x hx) (by omega)]
    rw [List.drop_eq_getElem_cons hi]
    rfl
theorem ref_sort {k : Nat} (hk : l.length * (l.length + 2) + 2 * S + 10 ≤ k) : pumiceref02_Sort.f k l = some (sortT l) := by
  unfold pumiceref02_Sort.f
  refine (sort_l0 l S hl hS hS2 l.length k 0 [] (by omega) (by omega) rfl (by simp) hk).trans ?_
  rw [List.drop_zero, refSort_eq]
end
end Go.Proofs.YthcooheghekplaaDoor.Q
