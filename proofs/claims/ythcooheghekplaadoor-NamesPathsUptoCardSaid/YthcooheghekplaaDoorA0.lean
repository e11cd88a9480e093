/- Plain: the parts of a path, joined again. No condition beside those in the lemmas. -/
import Derived.Test.YthcooheghekplaaDoorQ5
namespace Go.Proofs.YthcooheghekplaaDoor.Q
open Go.RowKit Go.Proofs.YthcooheghekplaaDoorW.PrintWords Go.Proofs.YthcooheghekplaaDoorW.PrintLast Go.Proofs.YthcooheghekplaaDoorW.PrintMore Go.Proofs.YthcooheghekplaaDoor.Cut
set_option linter.unusedVariables false
set_option linter.unusedSimpArgs false
theorem w64 (i : Int) (h : -9223372036854775808 ≤ i ∧ i ≤ 9223372036854775807) : wrap64 i = i := by unfold wrap64; omega
theorem tl (s : ByteArray) : s.toList = s.data.toList := ByteArray.toList_eq s
theorem sz (s : ByteArray) : s.data.toList.length = s.size := by rw [Array.length_toList]; rfl
theorem nil_iff (s : ByteArray) : s.toList = [] ↔ s.size = 0 := by rw [tl, ← sz]; exact List.length_eq_zero_iff.symm
theorem ba_eq {a b : ByteArray} (h : a.data.toList = b.data.toList) : a = b := ByteArray.ext (Array.ext' h)
theorem mkB_data (l : List UInt8) : (mkB l).data.toList = l := by simp [mkB]
theorem mkB_size (l : List UInt8) : (mkB l).size = l.length := by rw [← sz, mkB_data]
theorem leO_le {α : Type} {f : Nat → Option α} (h : ∀ k, LeO (f k) (f (k + 1))) {k m : Nat} (hk : k ≤ m) {r : α} (hr : f k = some r) : f m = some r := by
  induction m with
  | zero =>
    obtain rfl : k = 0 := by omega
    exact hr
  | succ m ih =>
    rcases Nat.lt_or_ge k (m + 1) with h1 | h1
    · exact h m r (ih (by omega))
    · obtain rfl : k = m + 1 := by omega
      exact hr
/-! ### pieces -/
theorem cut_ne (l : List UInt8) : cutL l ≠ [] := by
  cases l with
  | nil => simp [cutL]
  | cons c r =>
    unfold cutL
    split
    · simp
    · split <;> simp
theorem cut_no {l : List UInt8} (h : (47 : UInt8) ∉ l) : cutL l = [l] := by
  induction l with
  | nil => rfl
  | cons c r ih =>
    have hc : ¬ (c == 47) = true := fun e => h (by rw [eq_of_beq e]; exact List.mem_cons_self ..)
    unfold cutL
    rw [if_neg hc, ih (fun hm => h (List.mem_cons_of_mem _ hm))]
theorem cut_app (r : List UInt8) : ∀ {a : List UInt8}, (47 : UInt8) ∉ a → cutL (a ++ 47 :: r) = a :: cutL r
  | [], _ => by simp [cutL]
  | c :: a, h => by
    have hc : ¬ (c == 47) = true := fun e => h (by rw [eq_of_beq e]; exact List.mem_cons_self ..)
    have ih := cut_app r (a := a) (fun hm => h (List.mem_cons_of_mem _ hm))
    show cutL (c :: (a ++ 47 :: r)) = _
    conv => lhs; unfold cutL
    rw [if_neg hc, ih]
theorem cut_mem : ∀ {l p : List UInt8}, p ∈ cutL l → (47 : UInt8) ∉ p ∧ ∀ b ∈ p, b ∈ l
  | [], p, h => by
    rw [show cutL [] = [[]] from rfl, List.mem_singleton] at h
    rw [h]
    exact ⟨by simp, by simp⟩
  | c :: r, p, h => by
    unfold cutL at h
    by_cases hc : (c == 47) = true
    · rw [if_pos hc] at h
      rcases List.mem_cons.1 h with rfl | h
      · exact ⟨by simp, by simp⟩
      · have := cut_mem h
        exact ⟨this.1, fun b hb => List.mem_cons_of_mem _ (this.2 b hb)⟩
    · rw [if_neg hc] at h
      have hne : (47 : UInt8) ≠ c := fun e => hc (by rw [e]; exact beq_self_eq_true _)
      cases hr : cutL r with
      | nil => exact absurd hr (cut_ne r)
      | cons x t =>
        rw [hr] at h
        rcases List.mem_cons.1 h with rfl | h
        · have := cut_mem (l := r) (p := x) (by rw [hr]; exact List.mem_cons_self ..)
          refine ⟨fun hm => ?_, fun b hb => ?_⟩
          · rcases List.mem_cons.1 hm with e | hm
            · exact hne e
            · exact this.1 hm
          · rcases List.mem_cons.1 hb with rfl | hb
            · exact List.mem_cons_self ..
            · exact List.mem_cons_of_mem _ (this.2 b hb)
        · have := cut_mem (l := r) (p := p) (by rw [hr]; exact List.mem_cons_of_mem _ h)
          exact ⟨this.1, fun b hb => List.mem_cons_of_mem _ (this.2 b hb)⟩
/-! ### Join -/
abbrev sep : List UInt8 := (⟨#[47]⟩ : ByteArray).data.toList
theorem cut_tail : ∀ (r : List (List UInt8)) (x : List UInt8), (∀ p ∈ x :: r, (47 : UInt8) ∉ p) → cutL (x ++ Lib.joinTail sep r) = x :: r
  | [], x, h => by
    have e : Lib.joinTail sep [] = [] := rfl
    rw [e, List.append_nil]
    exact cut_no (h x (List.mem_cons_self ..))
  | y :: r, x, h => by
    have e : Lib.joinTail sep (y :: r) = 47 :: (y ++ Lib.joinTail sep r) := rfl
    rw [e, cut_app _ (h x (List.mem_cons_self ..)), cut_tail r y (fun p hp => h p (List.mem_cons_of_mem _ hp))]
def joinB (l : List ByteArray) : ByteArray := (⟨#[47]⟩ : ByteArray) ++ joined l
theorem joinB_data (l : List ByteArray) : (joinB l).data.toList = 47 :: Lib.join (l.map (·.data.toList)) sep := by
  unfold joinB joined
  rw [ByteArray.data_append, Array.toList_append]
  rfl
/-- What stands between slashes: neither empty nor too long, no slash, no zero. -/
structure Good (l : List ByteArray) : Prop where
  ne : ∀ x ∈ l, x.size ≠ 0
  le : ∀ x ∈ l, x.size ≤ 24
  no : ∀ x ∈ l, (47 : UInt8) ∉ x.data.toList
  nz : ∀ x ∈ l, (0 : UInt8) ∉ x.data.toList
  len : l.length ≤ 32
theorem col_all {l : List ByteArray} (h : ∀ x ∈ l, x.size ≠ 0) : col l = l := List.filter_eq_self.2 (fun x hx => by simpa using h x hx)
theorem pieces_join {l : List ByteArray} (h0 : ∀ x ∈ l, x.size ≠ 0) (h : ∀ x ∈ l, (47 : UInt8) ∉ x.data.toList) : col (pieces (joinB l)) = l := by
  unfold pieces
  rw [joinB_data]
  have e : cutL (47 :: Lib.join (l.map (·.data.toList)) sep) = [] :: cutL (Lib.join (l.map (·.data.toList)) sep) := by simp [cutL]
  rw [e]
  cases l with
  | nil =>
    have e1 : cutL (Lib.join (([] : List ByteArray).map (·.data.toList)) sep) = [[]] := rfl
    rw [e1]
    rfl
  | cons x r =>
    have e4 : (x :: r).map (·.data.toList) = x.data.toList :: r.map (·.data.toList) := rfl
    rw [e4, Lib.join_cons, cut_tail _ _ (fun p hp => by
      rcases List.mem_cons.1 hp with rfl | hp
      · exact h x (List.mem_cons_self ..)
      · obtain ⟨y, hy, rfl⟩ := List.mem_map.1 hp
        exact h y (List.mem_cons_of_mem _ hy))]
    have e2 : (([] :: x.data.toList :: r.map (·.data.toList)).map mkB) = mkB [] :: (x :: r) := by
      rw [List.map_cons, List.map_cons, List.map_map]
      have : r.map (mkB ∘ fun x => x.data.toList) = r := (List.map_congr_left (fun a _ => mkB_self a)).trans (List.map_id r)
      rw [this]
      rfl
    rw [e2]
    have e3 : col (mkB [] :: (x :: r)) = col (x :: r) := by
      unfold col
      rw [List.filter_cons_of_neg (by rw [mkB_size]; decide)]
    rw [e3, col_all h0]
theorem join_len : ∀ (l : List ByteArray), (∀ x ∈ l, x.size ≤ 24) → (Lib.joinTail sep (l.map (·.data.toList))).length ≤ 25 * l.length
  | [], _ => Nat.le_refl _
  | x :: r, h => by
    have e : Lib.joinTail sep ((x :: r).map (·.data.toList)) = 47 :: (x.data.toList ++ Lib.joinTail sep (r.map (·.data.toList))) := rfl
    have ih := join_len r (fun y hy => h y (List.mem_cons_of_mem _ hy))
    have hx := h x (List.mem_cons_self ..)
    rw [e, List.length_cons, List.length_append, sz, List.length_cons]
    omega
theorem joined_size {l : List ByteArray} (h : ∀ x ∈ l, x.size ≤ 24) : (joined l).size ≤ 25 * l.length := by
  have e : (joined l).size = (Lib.join (l.map (·.data.toList)) sep).length := by unfold joined; rw [ByteArray.size, List.size_toArray]
  rw [e]
  cases l with
  | nil => exact Nat.zero_le _
  | cons x r =>
    have := join_len r (fun y hy => h y (List.mem_cons_of_mem _ hy))
    have hx := h x (List.mem_cons_self ..)
    rw [List.map_cons, Lib.join_cons, List.length_append, sz, List.length_cons]
    omega
theorem join_f {l : List ByteArray} (h : ∀ x ∈ l, x.size ≤ 24) (hl : l.length ≤ 1000) : names_Join.f l = some (joinB l) := by
  have := joined_size h
  unfold names_Join.f
  rw [if_pos (by omega)]
  rfl
theorem join_mem {l : List ByteArray} {b : UInt8} (h : b ∈ (joinB l).data.toList) : b = 47 ∨ ∃ x ∈ l, b ∈ x.data.toList := by
  rw [joinB_data] at h
  rcases List.mem_cons.1 h with h | h
  · exact .inl h
  · have ht : ∀ (r : List ByteArray), b ∈ Lib.joinTail sep (r.map (·.data.toList)) → b = 47 ∨ ∃ x ∈ r, b ∈ x.data.toList := by
      intro r
      induction r with
      | nil => intro h; cases h
      | cons x r ih =>
        intro h
        have e : Lib.joinTail sep ((x :: r).map (·.data.toList)) = 47 :: (x.data.toList ++ Lib.joinTail sep (r.map (·.data.toList))) := rfl
        rw [e] at h
        rcases List.mem_cons.1 h with h | h
        · exact .inl h
        · rcases List.mem_append.1 h with h | h
          · exact .inr ⟨x, List.mem_cons_self .., h⟩
          · rcases ih h with h | ⟨y, hy, h⟩
            · exact .inl h
            · exact .inr ⟨y, List.mem_cons_of_mem _ hy, h⟩
    cases l with
    | nil => cases h
    | cons x r =>
      rw [List.map_cons, Lib.join_cons] at h
      rcases List.mem_append.1 h with h | h
      · exact .inr ⟨x, List.mem_cons_self .., h⟩
      · rcases ht r h with h | ⟨y, hy, h⟩
        · exact .inl h
        · exact .inr ⟨y, List.mem_cons_of_mem _ hy, h⟩
/-! ### Split -/
theorem idx_neg {l : List UInt8} {c : UInt8} : ¬ 0 ≤ Lib.indexByte l c ↔ c ∉ l := by
  have hg := Lib.indexByte_ge l c
  constructor
  · intro h hm
    obtain ⟨k, hk, he⟩ := List.getElem_of_mem hm
    have hm1 : Lib.indexByte l c = -1 := by omega
    exact Lib.indexByte_none hm1 k (by rw [List.getElem?_eq_getElem hk, he])
  · intro h h0
    have := (Lib.indexByte_some (l := l) (c := c) (o := (Lib.indexByte l c).toNat) (by omega)).1
    exact h (List.mem_of_getElem? this)
def endSlash (s : ByteArray) : Bool := bt s ((s.size : Int) - 1) == 47
theorem suffix_f {s : ByteArray} (h0 : s.size ≠ 0) (h : s.size ≤ 255) : strings_HasSuffix.f s ⟨#[47]⟩ = some (endSlash s) := by
  have e1 : (⟨#[47]⟩ : ByteArray).size = 1 := rfl
  unfold strings_HasSuffix.f stringslite_HasSuffix.f
  rw [e1, w64 _ (by omega), if_pos (by omega), if_pos (by omega), if_pos (by omega), Option.bind_some]
  congr 1
  have ht : ((s.size : Int) - ((1 : Nat) : Int)).toNat = s.size - 1 := by omega
  rw [ht, tl, tl, endSlash, bt]
  rw [dif_pos (by omega : ((s.size : Int) - 1).toNat < s.size)]
  have hlast : (s.extract (s.size - 1) s.size).data.toList = [s[((s.size : Int) - 1).toNat]'(by omega)] := by
    have h1 : ((s.size : Int) - 1).toNat = s.size - 1 := by omega
    simp only [ByteArray.data_extract, Array.toList_extract, List.extract_eq_take_drop]
    have h2 : s.size - 1 < s.data.toList.length := by rw [sz]; omega
    rw [List.drop_eq_getElem_cons h2]
    have h3 : s.size - (s.size - 1) = 1 := by omega
    rw [h3, List.take_succ_cons, List.take_zero]
    congr 1
    rw [Array.getElem_toList]
    congr 1
    exact h1.symm
  rw [hlast]
  generalize s[((s.size : Int) - 1).toNat]'(by omega) = b
  have : ([b] == (⟨#[47]⟩ : ByteArray).data.toList) = (b == 47) := by show ([b] == [47]) = _; simp
  rw [this]
  rcases Decidable.em (b = 47) with rfl | hb
  · rfl
  · rw [beq_eq_false_iff_ne.2 hb]
    symm
    apply beq_eq_false_iff_ne.2
    intro e
    apply hb
    have h1 : b.toNat = (47 : UInt8).toNat := by
      have : ((b.toNat : Int)) = 47 := e
      show b.toNat = 47
      omega
    exact UInt8.toNat_inj.1 h1
theorem split_cases (s : ByteArray) : (∃ e, e ≠ 0 ∧ names_Split.f s = some ([], false, e)) ∨ (names_Split.f s = some (col (pieces s), endSlash s, 0) ∧ Good (col (pieces s)) ∧ s.size ≠ 0 ∧ s.size ≤ 255) := by
  unfold names_Split.f
  by_cases h0 : s.size = 0
  · rw [if_pos h0]; exact .inl ⟨2, by decide, rfl⟩
  · rw [if_neg h0]
    by_cases h1 : 255 < s.size
    · rw [if_pos h1]; exact .inl ⟨36, by decide, rfl⟩
    · rw [if_neg h1]
      by_cases h2 : 0 ≤ Lib.indexByte s.data.toList 0
      · rw [if_pos h2]; exact .inl ⟨22, by decide, rfl⟩
      · rw [if_neg h2, suffix_f h0 (by omega), Option.bind_some]
        by_cases h3 : okl (pieces s)
        · rw [if_pos h3]
          refine .inr ⟨rfl, ⟨?_, h3.1, ?_, ?_, h3.2⟩, h0, by omega⟩
          · intro x hx
            have := (List.mem_filter.1 hx).2
            simpa using this
          · intro x hx
            obtain ⟨p, hp, rfl⟩ := List.mem_map.1 (List.mem_filter.1 hx).1
            rw [mkB_data]
            exact (cut_mem hp).1
          · intro x hx
            obtain ⟨p, hp, rfl⟩ := List.mem_map.1 (List.mem_filter.1 hx).1
            rw [mkB_data]
            exact fun hm => idx_neg.1 h2 ((cut_mem hp).2 _ hm)
        · rw [if_neg h3]; exact .inl ⟨36, by decide, rfl⟩
theorem joinB_size (l : List ByteArray) : (joinB l).size ≠ 0 := by
  rw [← sz, joinB_data, List.length_cons]; omega
theorem split_join {l : List ByteArray} (h : Good l) (hs : (joinB l).size ≤ 255) : names_Split.f (joinB l) = some (l, endSlash (joinB l), 0) := by
  have hc := pieces_join h.ne h.no
  have hok : okl (pieces (joinB l)) := by unfold okl; rw [hc]; exact ⟨h.le, h.len⟩
  unfold names_Split.f
  rw [if_neg (joinB_size l), if_neg (by omega), if_neg (idx_neg.2 (fun hm => by
    rcases join_mem hm with e | ⟨x, hx, hm⟩
    · exact absurd e (by decide)
    · exact h.nz x hx hm)), suffix_f (joinB_size l) hs, Option.bind_some, if_pos hok, hc]
theorem split_big {s : ByteArray} (hs : 255 < s.size) : names_Split.f s = some ([], false, 36) := by
  unfold names_Split.f
  rw [if_neg (by omega), if_pos hs]
end Go.Proofs.YthcooheghekplaaDoor.Q
