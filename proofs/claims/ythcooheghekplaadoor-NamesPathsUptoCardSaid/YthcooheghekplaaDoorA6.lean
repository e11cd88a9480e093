/- Plain: what the parts of NamesPaths tell, the program's and the document's. -/
import Derived.Test.YthcooheghekplaaDoorA3
import Derived.Test.YthcooheghekplaaDoorHZ2
import Derived.Test.YthcooheghekplaaDoorZ1
namespace Go.Proofs.YthcooheghekplaaDoor.Q
open Go.RowKit Go.Proofs.YthcooheghekplaaDoorW.PrintWords Go.Proofs.YthcooheghekplaaDoorW.PrintLast Go.Proofs.YthcooheghekplaaDoorW.PrintMore Go.Proofs.YthcooheghekplaaDoor.Cut
set_option linter.unusedVariables false
set_option linter.unusedSimpArgs false
set_option linter.unusedSectionVars false
theorem wsn {i : Nat} (h : i < 9000000000000000000) : wrap64 ((i : Int) + 1) = ((i + 1 : Nat) : Int) := by rw [w64 _ (by omega)]; omega
/-! ### Join -/
theorem ba_app (a b c : ByteArray) : a ++ b ++ c = a ++ (b ++ c) := ByteArray.append_assoc
def tailB : List ByteArray → ByteArray
  | [] => ⟨#[]⟩
  | x :: r => (⟨#[47]⟩ : ByteArray) ++ (x ++ tailB r)
theorem tailB_data : ∀ l : List ByteArray, (tailB l).data.toList = Lib.joinTail sep (l.map (·.data.toList))
  | [] => rfl
  | x :: r => by
    have e : Lib.joinTail sep ((x :: r).map (·.data.toList)) = 47 :: (x.data.toList ++ Lib.joinTail sep (r.map (·.data.toList))) := rfl
    rw [e, tailB, ByteArray.data_append, Array.toList_append, ByteArray.data_append, Array.toList_append, tailB_data r]
    rfl
theorem joinB_cons (x : ByteArray) (r : List ByteArray) : joinB (x :: r) = (⟨#[47]⟩ : ByteArray) ++ (x ++ tailB r) := by
  apply ba_eq
  rw [joinB_data, List.map_cons, Lib.join_cons, ByteArray.data_append, Array.toList_append, ByteArray.data_append, Array.toList_append, tailB_data]
  rfl
theorem tailB_size : ∀ (l : List ByteArray), (∀ x ∈ l, x.size ≤ 1048576) → (tailB l).size ≤ 1048577 * l.length
  | [], _ => Nat.le_refl _
  | x :: r, h => by
    have ih := tailB_size r (fun y hy => h y (List.mem_cons_of_mem _ hy))
    have hx := h x (List.mem_cons_self ..)
    have e1 : (⟨#[47]⟩ : ByteArray).size = 1 := rfl
    rw [tailB, ByteArray.size_append, ByteArray.size_append, e1, List.length_cons]
    omega
section
variable (l : List ByteArray) (hl : l.length ≤ 1048576) (hs : ∀ x ∈ l, x.size ≤ 1048576)
include hl hs
theorem refjoin_l0 : ∀ (d k i : Nat) (acc : ByteArray), l.length - i = d → i ≤ l.length → d + 1 ≤ k → 0 < i → acc.size ≤ 1048577 * (i + 1) →
    pumiceref02_Join.l0 k l acc (i : Int) = some (acc ++ tailB (l.drop i)) := by
  intro d
  induction d with
  | zero =>
    intro k i acc h0 h1 h2 h3 h4
    obtain ⟨j, rfl⟩ : ∃ j, k = j + 1 := ⟨k - 1, by omega⟩
    rw [pumiceref02_Join.l0, if_neg (by omega), List.drop_of_length_le (by omega), tailB]
    exact congrArg some (ByteArray.append_empty).symm
  | succ d ih =>
    intro k i acc h0 h1 h2 h3 h4
    obtain ⟨j, rfl⟩ : ∃ j, k = j + 1 := ⟨k - 1, by omega⟩
    have hi : i < l.length := by omega
    have hx := hs l[i] (List.getElem_mem hi)
    have e1 : (⟨#[47]⟩ : ByteArray).size = 1 := rfl
    rw [pumiceref02_Join.l0, if_pos (by omega), if_pos (by omega), if_pos (by omega), if_pos (by omega), rdat hi, ByteArray.size_append, e1, if_pos (by omega), wsn (by omega),
      ih j (i + 1) _ (by omega) (by omega) (by omega) (by omega) (by rw [ByteArray.size_append, ByteArray.size_append, e1]; omega), List.drop_eq_getElem_cons hi, tailB, ba_app, ba_app]
theorem refjoin_f {k : Nat} (hk : l.length + 2 ≤ k) : pumiceref02_Join.f k l = some (joinB l) := by
  obtain ⟨j, rfl⟩ : ∃ j, k = j + 1 := ⟨k - 1, by omega⟩
  unfold pumiceref02_Join.f
  cases l with
  | nil =>
    rw [pumiceref02_Join.l0, if_neg (by simp)]
    rfl
  | cons x r =>
    have hx := hs x (List.mem_cons_self ..)
    have e1 : (⟨#[47]⟩ : ByteArray).size = 1 := rfl
    have h0 : rdOf ByteArray.empty (x :: r) 0 = x := rfl
    have hw : wrap64 (0 + 1) = ((1 : Nat) : Int) := by rw [w64 _ (by omega)]; rfl
    rw [pumiceref02_Join.l0, if_pos (by rw [List.length_cons]; omega), if_neg (by omega), if_pos (by omega), h0, e1, if_pos (by omega), hw]
    refine (refjoin_l0 (x :: r) hl hs r.length j 1 _ (by rw [List.length_cons]; omega) (by rw [List.length_cons]; omega) (by rw [List.length_cons] at hk; omega) (by omega) (by rw [ByteArray.size_append, e1]; omega)).trans ?_
    rw [joinB_cons, ba_app]
    rfl
theorem joinbig_f : names_Join.f l = some (joinB l) := by
  unfold names_Join.f
  have hj : (joined l).size < 140737488355328 := by
    have e : (joinB l).size = 1 + (joined l).size := by unfold joinB; rw [ByteArray.size_append]; rfl
    cases l with
    | nil => exact (by decide : (joined []).size < 140737488355328)
    | cons x r =>
      have h1 := tailB_size r (fun y hy => hs y (List.mem_cons_of_mem _ hy))
      have hx := hs x (List.mem_cons_self ..)
      have e1 : (⟨#[47]⟩ : ByteArray).size = 1 := rfl
      rw [joinB_cons, ByteArray.size_append, ByteArray.size_append, e1] at e
      rw [List.length_cons] at hl
      omega
  rw [if_pos hj]
  rfl
theorem parent_f (s : Bool) : ∃ m1 s1 x1, Z.names_Parent.f l s = some (m1, s1, x1) ∧ m1.length ≤ l.length ∧ (∀ (W : World) (A : Option Addr) (c : Nat), l.length ≤ c → Kd.C Kd.string W A l.length l → Calls Tryd.prog 21 #[.agg #[.slice A l.length c, .bool s]] W (Z.RefPost m1 s1 x1 W)) := by
  cases hl0 : l with
  | nil =>
    refine ⟨[], s, ⟨#[]⟩, ?_, Nat.le_refl _, fun W A c hc hC => Z.refParent_nil A c s W hC⟩
    unfold Z.names_Parent.f Z.slices_Clone.f
    rw [if_pos (show (((([] : List ByteArray).length : Nat)) : Int) = 0 from rfl), if_pos (show (([] : List ByteArray).length) ≤ 8796093022207 by simp), Option.bind_some]
  | cons y ys =>
    rw [← hl0]
    obtain ⟨m, hm⟩ : ∃ m, l.length = m + 1 := ⟨l.length - 1, by rw [hl0, List.length_cons]; omega⟩
    have hlt : m < l.length := by omega
    refine ⟨l.take m, false, l[m], ?_, by rw [List.length_take]; omega, fun W A c hc hC => Z.refParent_pos A c m l l[m] s W hm (List.getElem?_eq_getElem hlt) hc hC⟩
    have hw : wrap64 ((l.length : Int) - 1) = (m : Int) := by rw [w64 _ (by omega)]; omega
    unfold Z.names_Parent.f Z.slices_Clone.f
    rw [if_neg (by omega), hw, if_pos (by omega), if_pos (by omega), Int.toNat_natCast, if_pos (by rw [List.length_take]; omega), Option.bind_some, if_pos (by omega), rdat hlt]
end
/-! ### Clean -/
theorem refclean_l0 (parts : List ByteArray) (b : Bool) (hp : ∀ x ∈ parts, x.size ≤ 24) : ∀ (d k i : Nat) (acc : List ByteArray), parts.length - i = d → i ≤ parts.length → 2 * d + 100 + acc.length ≤ k → acc.length + d ≤ 900 → parts.length ≤ 900 → (∀ x ∈ acc, x.size ≤ 24) →
    pumiceref02_Clean.l0 k acc (i : Int) parts b = some (joinB ((parts.drop i).foldl stepC acc), 0) := by
  intro d
  induction d with
  | zero =>
    intro k i acc h0 h1 h2 h3 h4 h5
    obtain ⟨j, rfl⟩ : ∃ j, k = j + 1 := ⟨k - 1, by omega⟩
    rw [pumiceref02_Clean.l0, if_neg (by omega), List.drop_of_length_le (by omega), refjoin_f acc (by omega) (fun x hx => by have := h5 x hx; omega) (by omega)]
    rfl
  | succ d ih =>
    intro k i acc h0 h1 h2 h3 h4 h5
    obtain ⟨j, rfl⟩ : ∃ j, k = j + 1 := ⟨k - 1, by omega⟩
    have hi : i < parts.length := by omega
    have hs := step_len acc parts[i]
    have h5' : ∀ x ∈ stepC acc parts[i], x.size ≤ 24 := by
      intro x hx
      unfold stepC at hx
      split at hx
      · exact h5 x hx
      · split at hx
        · exact h5 x (List.mem_of_mem_take hx)
        · rcases List.mem_append.1 hx with hx | hx
          · exact h5 x hx
          · rw [List.mem_singleton] at hx
            subst hx
            exact hp _ (List.getElem_mem hi)
    have hgo := ih j (i + 1) (stepC acc parts[i]) (by omega) (by omega) (by omega) (by omega) h4 h5'
    rw [List.drop_eq_getElem_cons hi, List.foldl_cons, ← hgo]
    rw [pumiceref02_Clean.l0, if_pos (by omega), if_pos (by omega), rdat hi, wsn (by omega)]
    unfold stepC
    by_cases c1 : parts[i].toList = [46]
    · rw [if_pos c1, if_pos c1]
    · rw [if_neg c1, if_neg c1]
      by_cases c2 : parts[i].toList = [46, 46]
      · rw [if_pos c2, if_pos c2]
        by_cases c3 : (acc.length : Int) > 0
        · have hm : wrap64 ((acc.length : Int) - 1) = ((acc.length - 1 : Nat) : Int) := by rw [w64 _ (by omega)]; omega
          rw [if_pos c3, hm, if_pos (by omega), if_pos (by omega), Int.toNat_natCast]
        · obtain rfl : acc = [] := List.eq_nil_of_length_eq_zero (by omega)
          rw [if_neg c3]
          rfl
      · rw [if_neg c2, if_neg c2, if_pos (by omega)]
theorem clean_both (s : ByteArray) : ∃ c e, names_Clean.f 100 s = some (c, e) ∧ pumiceref02_Clean.f 900 s = some (c, e) := by
  rcases split_cases s with ⟨e, he, hs⟩ | ⟨hs, hg, _⟩
  · refine ⟨⟨#[]⟩, e, clean_err he hs _, ?_⟩
    unfold pumiceref02_Clean.f
    rw [ref_split s (by omega), hs, Option.bind_some, if_neg he]
  · refine ⟨_, _, clean_of hs hg (by omega), ?_⟩
    have hl := hg.len
    unfold pumiceref02_Clean.f
    rw [ref_split s (by omega), hs, Option.bind_some, if_pos rfl]
    exact (refclean_l0 _ _ hg.le (col (pieces s)).length 900 0 [] (by omega) (by omega) (by rw [List.length_nil]; omega) (by rw [List.length_nil]; omega) (by omega) (by simp)).trans rfl
end Go.Proofs.YthcooheghekplaaDoor.Q
