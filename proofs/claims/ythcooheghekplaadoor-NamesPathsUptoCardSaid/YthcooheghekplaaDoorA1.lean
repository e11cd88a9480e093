/- Plain: Clean, alive, NamesBack. No condition. -/
import Derived.Test.YthcooheghekplaaDoorA0
import Derived.Test.YthcooheghekplaaDoorQ6
namespace Go.Proofs.YthcooheghekplaaDoor.Q
open Go.RowKit Go.Proofs.YthcooheghekplaaDoorW.PrintWords Go.Proofs.YthcooheghekplaaDoorW.PrintLast Go.Proofs.YthcooheghekplaaDoorW.PrintMore Go.Proofs.YthcooheghekplaaDoor.Cut
set_option linter.unusedVariables false
set_option linter.unusedSimpArgs false
theorem texts_l0 (l : List ByteArray) (hl : l.length ≤ 9000000000000000000) : ∀ (d k i : Nat), l.length - i = d → i ≤ l.length → d + 1 ≤ k → pumicelaw02_Texts.l0 k l l (i : Int) = some true := by
  intro d
  induction d with
  | zero =>
    intro k i h0 h1 h2
    obtain ⟨j, rfl⟩ : ∃ j, k = j + 1 := ⟨k - 1, by omega⟩
    rw [pumicelaw02_Texts.l0, if_neg (by omega)]
  | succ d ih =>
    intro k i h0 h1 h2
    obtain ⟨j, rfl⟩ : ∃ j, k = j + 1 := ⟨k - 1, by omega⟩
    have hw : wrap64 ((i : Int) + 1) = ((i + 1 : Nat) : Int) := by rw [w64 _ (by omega)]; omega
    rw [pumicelaw02_Texts.l0, if_pos (by omega), if_pos (by omega), if_pos (by omega), if_pos rfl, hw]
    exact ih j (i + 1) (by omega) (by omega) (by omega)
theorem texts_f {l : List ByteArray} (hl : l.length ≤ 9000000000000000000) {k : Nat} (hk : l.length + 1 ≤ k) : pumicelaw02_Texts.f k l l = some true := by
  unfold pumicelaw02_Texts.f
  rw [if_pos rfl]
  exact texts_l0 l hl l.length k 0 (by omega) (by omega) (by omega)
def stepC (acc : List ByteArray) (s : ByteArray) : List ByteArray := if s.toList = [46] then acc else if s.toList = [46, 46] then acc.take (acc.length - 1) else acc ++ [s]
theorem step_len (acc : List ByteArray) (s : ByteArray) : (stepC acc s).length ≤ acc.length + 1 := by
  unfold stepC
  split
  · omega
  · split
    · rw [List.length_take]; omega
    · rw [List.length_append, List.length_singleton]; omega
theorem rdat {l : List ByteArray} {i : Nat} (h : i < l.length) : rdOf ByteArray.empty l (i : Int) = l[i] := by
  unfold rdOf
  simp [List.getD_eq_getElem?_getD, h]
theorem clean_l0 (parts : List ByteArray) : ∀ (d k i : Nat) (acc : List ByteArray), parts.length - i = d → i ≤ parts.length → d + 1 ≤ k → acc.length + d ≤ 900 → parts.length ≤ 900 →
    names_Clean.l0 k acc parts (parts.length : Int) (i : Int) = (names_Join.f ((parts.drop i).foldl stepC acc)).bind fun t => some (t, 0) := by
  intro d
  induction d with
  | zero =>
    intro k i acc h0 h1 h2 h3 h4
    obtain ⟨j, rfl⟩ : ∃ j, k = j + 1 := ⟨k - 1, by omega⟩
    rw [names_Clean.l0, if_neg (by omega), List.drop_of_length_le (by omega)]
    rfl
  | succ d ih =>
    intro k i acc h0 h1 h2 h3 h4
    obtain ⟨j, rfl⟩ : ∃ j, k = j + 1 := ⟨k - 1, by omega⟩
    have hi : i < parts.length := by omega
    have hw : wrap64 ((i : Int) + 1) = ((i + 1 : Nat) : Int) := by rw [w64 _ (by omega)]; omega
    have hs := step_len acc parts[i]
    have hgo := ih j (i + 1) (stepC acc parts[i]) (by omega) (by omega) (by omega) (by omega) h4
    rw [List.drop_eq_getElem_cons hi, List.foldl_cons, ← hgo]
    rw [names_Clean.l0, if_pos (by omega), if_pos (by omega), if_pos (by omega), rdat hi, hw]
    unfold stepC
    by_cases c1 : parts[i].toList = [46]
    · rw [if_pos c1, if_pos c1]
    · rw [if_neg c1, if_neg c1]
      by_cases c2 : parts[i].toList = [46, 46]
      · have hm : mx 0 (wrap64 ((acc.length : Int) - 1)) = ((acc.length - 1 : Nat) : Int) := by
          rw [w64 _ (by omega)]; unfold mx; split <;> omega
        rw [if_pos c2, if_pos c2, hm, if_pos (by omega), if_pos (by omega), Int.toNat_natCast]
      · rw [if_neg c2, if_neg c2, if_pos (by omega)]
def cl (l : List ByteArray) : List ByteArray := l.foldl stepC []
/-- Neither . nor .. in it. -/
def NoDots (l : List ByteArray) : Prop := ∀ x ∈ l, x.toList ≠ [46] ∧ x.toList ≠ [46, 46]
theorem fold_mem (p : ByteArray → Prop) : ∀ (l acc : List ByteArray), (∀ x ∈ acc, p x) → (∀ x ∈ l, x.toList ≠ [46] → x.toList ≠ [46, 46] → p x) → ∀ x ∈ l.foldl stepC acc, p x
  | [], acc, h, _ => h
  | y :: r, acc, h, hl => by
    rw [List.foldl_cons]
    refine fold_mem p r _ (fun x hx => ?_) (fun x hx => hl x (List.mem_cons_of_mem _ hx))
    unfold stepC at hx
    split at hx
    · exact h x hx
    · split at hx
      · exact h x (List.mem_of_mem_take hx)
      · rcases List.mem_append.1 hx with hx | hx
        · exact h x hx
        · rw [List.mem_singleton] at hx
          subst hx
          exact hl x (List.mem_cons_self ..) (by assumption) (by assumption)
theorem fold_len : ∀ (l acc : List ByteArray), (l.foldl stepC acc).length ≤ acc.length + l.length
  | [], acc => Nat.le_refl _
  | y :: r, acc => by
    have h1 := fold_len r (stepC acc y)
    have h2 := step_len acc y
    rw [List.foldl_cons, List.length_cons]
    omega
theorem fold_id : ∀ (l acc : List ByteArray), NoDots l → l.foldl stepC acc = acc ++ l
  | [], acc, _ => (List.append_nil acc).symm
  | y :: r, acc, h => by
    have hy := h y (List.mem_cons_self ..)
    rw [List.foldl_cons, stepC, if_neg hy.1, if_neg hy.2, fold_id r _ (fun x hx => h x (List.mem_cons_of_mem _ hx)), List.append_assoc]
    rfl
theorem cl_dots (l : List ByteArray) : NoDots (cl l) := fold_mem (fun x => x.toList ≠ [46] ∧ x.toList ≠ [46, 46]) l [] (by simp) (fun _ _ h1 h2 => ⟨h1, h2⟩)
theorem cl_good {l : List ByteArray} (h : Good l) : Good (cl l) := by
  have hm : ∀ x ∈ cl l, x ∈ l := fold_mem (fun x => x ∈ l) l [] (by simp) (fun x hx _ _ => hx)
  refine ⟨fun x hx => h.ne x (hm x hx), fun x hx => h.le x (hm x hx), fun x hx => h.no x (hm x hx), fun x hx => h.nz x (hm x hx), ?_⟩
  have := fold_len l []
  have hl := h.len
  unfold cl
  rw [List.length_nil] at this
  omega
theorem clean_of {s : ByteArray} {l : List ByteArray} {b : Bool} (hs : names_Split.f s = some (l, b, 0)) (hg : Good l) {k : Nat} (hk : 40 ≤ k) : names_Clean.f k s = some (joinB (cl l), 0) := by
  have hl := hg.len
  have hc := cl_good hg
  unfold names_Clean.f
  rw [hs, Option.bind_some, if_pos rfl]
  have := clean_l0 l l.length k 0 [] (by omega) (by omega) (by omega) (by rw [List.length_nil]; omega) (by omega)
  refine this.trans ?_
  rw [List.drop_zero]
  show (names_Join.f (cl l)).bind _ = _
  rw [join_f hc.le (by have := hc.len; omega), Option.bind_some]
theorem clean_err {s : ByteArray} {e : Int} (he : e ≠ 0) (hs : names_Split.f s = some ([], false, e)) (k : Nat) : names_Clean.f k s = some (⟨#[]⟩, e) := by
  unfold names_Clean.f
  rw [hs, Option.bind_some, if_neg he]
theorem split_of {s : ByteArray} (h0 : s.size ≠ 0) (h1 : s.size ≤ 255) (h2 : ¬ 0 ≤ Lib.indexByte s.data.toList 0) (h3 : okl (pieces s)) : names_Split.f s = some (col (pieces s), endSlash s, 0) := by
  unfold names_Split.f
  rw [if_neg h0, if_neg (by omega), if_neg h2, suffix_f h0 h1, Option.bind_some, if_pos h3]
theorem alive_f {k : Nat} (hk : 40 ≤ k) : pumicelaw02_alive.f k = some true := by
  have s1 : names_Split.f (⟨#[47, 97, 47, 47, 98, 47]⟩ : ByteArray) = some ([⟨#[97]⟩, ⟨#[98]⟩], true, 0) := by
    rw [split_of (by decide) (by decide) (by decide) (by decide)]
    rfl
  have s2 : names_Split.f (⟨#[]⟩ : ByteArray) = some ([], false, 2) := rfl
  have s3 : names_Split.f (⟨#[47, 97, 47, 46, 47, 98, 47, 46, 46, 47, 99]⟩ : ByteArray) = some ([⟨#[97]⟩, ⟨#[46]⟩, ⟨#[98]⟩, ⟨#[46, 46]⟩, ⟨#[99]⟩], false, 0) := by
    rw [split_of (by decide) (by decide) (by decide) (by decide)]
    rfl
  have g3 : Good [⟨#[97]⟩, ⟨#[46]⟩, ⟨#[98]⟩, ⟨#[46, 46]⟩, ⟨#[99]⟩] := ⟨by decide, by decide, by decide, by decide, by decide⟩
  have e1 : ∀ l : List UInt8, (⟨⟨l⟩⟩ : ByteArray).toList = l := fun l => tl _
  have c3 : cl [⟨#[97]⟩, ⟨#[46]⟩, ⟨#[98]⟩, ⟨#[46, 46]⟩, ⟨#[99]⟩] = [⟨#[97]⟩, ⟨#[99]⟩] := by
    unfold cl
    simp only [List.foldl_cons, List.foldl_nil, stepC, e1]
    decide
  have j3 : (joinB [⟨#[97]⟩, ⟨#[99]⟩]).toList = [47, 97, 47, 99] := by rw [tl, joinB_data]; rfl
  have r1 : names_Right.f (⟨#[46]⟩ : ByteArray) = some 22 := by
    unfold names_Right.f
    rw [if_pos (by decide), e1, if_neg (by decide), if_pos (by decide)]
  have r2 : names_Right.f (⟨#[97]⟩ : ByteArray) = some 0 := by
    unfold names_Right.f
    rw [if_pos (by decide), e1, if_neg (by decide), if_neg (by decide), if_neg (by decide)]
  have t1 : pumicelaw02_Texts.f k [⟨#[97]⟩, ⟨#[98]⟩] [⟨#[97]⟩, ⟨#[98]⟩] = some true := texts_f (by decide) (by simp; omega)
  unfold pumicelaw02_alive.f
  rw [s1, Option.bind_some, s2, Option.bind_some, clean_of s3 g3 hk, c3, Option.bind_some, t1, Option.bind_some, if_pos rfl, if_pos rfl, if_pos rfl, if_pos rfl, j3, if_pos rfl, if_pos rfl, r1, Option.bind_some, if_pos rfl, r2, Option.bind_some]
  rfl
theorem back_plain (s : ByteArray) {k : Nat} (hk : 60 ≤ k) : pumicelaw02_NamesBack.f k s = some true := by
  have ha := alive_f (k := k) (by omega)
  unfold pumicelaw02_NamesBack.f
  rcases split_cases s with ⟨e, he, hs⟩ | ⟨hs, hg, _⟩
  · rw [hs, Option.bind_some, if_neg he, if_pos (show ((([] : List ByteArray).length : Nat) : Int) = 0 from rfl), if_neg (show ¬ (false = true) by decide), ha]
    rfl
  · obtain ⟨l, hl⟩ : ∃ l, col (pieces s) = l := ⟨_, rfl⟩
    rw [hl] at hs hg
    have hlen := hg.len
    rw [hs, Option.bind_some, if_pos rfl, join_f hg.le (by omega), Option.bind_some]
    by_cases hb : 255 < (joinB l).size
    · rw [split_big hb, Option.bind_some, Option.bind_some, if_pos (by omega), ha]
      rfl
    · rw [split_join hg (by omega), Option.bind_some, Option.bind_some, if_neg (by omega), if_pos rfl, texts_f (l := l) (by omega) (by omega), Option.bind_some, if_pos rfl, if_pos (show (l.length : Int) ≤ 32 by omega), ha]
      rfl
theorem cleanlaw_l0 (l : List ByteArray) (b : Bool) (h : NoDots l) (hl : l.length ≤ 32) : ∀ (d k i : Nat), l.length - i = d → i ≤ l.length → 41 + d ≤ k → pumicelaw02_NamesClean.l0 k (i : Int) l b = some true := by
  intro d
  induction d with
  | zero =>
    intro k i h0 h1 h2
    obtain ⟨j, rfl⟩ : ∃ j, k = j + 1 := ⟨k - 1, by omega⟩
    rw [pumicelaw02_NamesClean.l0, if_neg (by omega), alive_f (by omega)]
    rfl
  | succ d ih =>
    intro k i h0 h1 h2
    obtain ⟨j, rfl⟩ : ∃ j, k = j + 1 := ⟨k - 1, by omega⟩
    have hi : i < l.length := by omega
    have hw : wrap64 ((i : Int) + 1) = ((i + 1 : Nat) : Int) := by rw [w64 _ (by omega)]; omega
    have hd := h l[i] (List.getElem_mem hi)
    rw [pumicelaw02_NamesClean.l0, if_pos (by omega), if_pos (by omega), rdat hi, if_neg hd.1, if_neg hd.2, hw]
    exact ih j (i + 1) (by omega) (by omega) (by omega)
theorem clean_plain (s : ByteArray) {k : Nat} (hk : 100 ≤ k) : pumicelaw02_NamesClean.f k s = some true := by
  have ha := alive_f (k := k) (by omega)
  unfold pumicelaw02_NamesClean.f
  rcases split_cases s with ⟨e, he, hs⟩ | ⟨hs, hg, _⟩
  · rw [clean_err he hs, Option.bind_some, if_neg he, if_pos (show (⟨#[]⟩ : ByteArray).toList = [] by rw [tl]), ha]
    rfl
  · obtain ⟨l, hl⟩ : ∃ l, cl (col (pieces s)) = l := ⟨_, rfl⟩
    have hgc := cl_good hg
    have hd := cl_dots (col (pieces s))
    rw [clean_of hs hg (by omega), Option.bind_some, if_pos rfl, hl]
    rw [hl] at hgc hd
    have hlen := hgc.len
    by_cases hb : 255 < (joinB l).size
    · rw [split_big hb, Option.bind_some, if_pos (show ((joinB l).size : Int) > 255 by omega), ha]
      rfl
    · have hid : cl l = l := fold_id l [] hd
      have hne := joinB_size l
      have hbt : bt (joinB l) 0 = 47 := by
        unfold bt
        rw [dif_pos (by omega)]
        have h1 : (joinB l).data.toList[0]? = some 47 := by rw [joinB_data]; rfl
        have h2 : (joinB l)[(0 : Int).toNat]'(by omega) = 47 := by
          have h3 := List.getElem?_eq_some_iff.1 h1
          obtain ⟨h4, h5⟩ := h3
          rw [Array.getElem_toList] at h5
          exact h5
        rw [h2]
        rfl
      obtain ⟨j, rfl⟩ : ∃ j, k = j + 1 := ⟨k - 1, by omega⟩
      rw [split_join hgc (by omega), Option.bind_some, if_neg (show ¬ ((joinB l).size : Int) > 255 by omega), clean_of (split_join hgc (by omega)) hgc (by omega), hid, Option.bind_some, if_pos rfl, if_pos rfl, if_pos rfl, if_neg (show ¬ ((joinB l).size : Int) = 0 by omega), if_pos (show 0 < ((joinB l).size : Int) by omega), hbt, pumicelaw02_NamesClean.j0, if_neg (by decide)]
      exact cleanlaw_l0 l _ hd hlen l.length j 0 (by omega) (by omega) (by omega)
end Go.Proofs.YthcooheghekplaaDoor.Q
