/- A4, P7, H19 -/
import Derived.Test.YtlpnggaeepjjfaaGreatDoorKb
namespace Go.Proofs.YtlpnggaeepjjfaaGreatDoor.Bo
open Go.RowKit Go.Proofs.YtlpnggaeepjjfaaGreatDoor.Cut Go.Proofs.YtlpnggaeepjjfaaGreatDoorW.PrintWords
set_option linter.unusedVariables false
set_option linter.unusedSimpArgs false
theorem w64 {n : Int} (h0 : -9223372036854775808 ≤ n) (h1 : n < 9223372036854775808) : wrap64 n = n := by unfold wrap64; omega
theorem mono_le {α : Type} {f : Nat → Option α} (hm : ∀ k, LeO (f k) (f (k + 1))) {k : Nat} {r : α} (h : f k = some r) : ∀ j, f (k + j) = some r
  | 0 => h
  | j + 1 => hm _ r (mono_le hm h j)
theorem bt_nat (x : ByteArray) (i : Nat) (h : i < x.data.toList.length) : bt x (i : Int) = ((x.data.toList[i]).toNat : Int) := by
  have hs : x.data.toList.length = x.size := by rw [Array.length_toList]; rfl
  have hi : ((i : Nat) : Int).toNat < x.size := by rw [Int.toNat_natCast]; omega
  rw [← bt_at x (i : Int) hi]
  rfl
/-- What is ahead of the first c, what is behind it, whether there is one. -/
def cutR (x : ByteArray) (c : UInt8) : ByteArray × ByteArray × Bool :=
  match Lib.indexByte x.data.toList c with
  | Int.ofNat k => (x.extract 0 k, x.extract (k + 1) x.size, true)
  | Int.negSucc _ => (x, ⟨#[]⟩, false)
theorem index_drop_ne {l : List UInt8} {c : UInt8} {i : Nat} (hi : i < l.length) (hne : l[i] ≠ c) (hno : ∀ j (hj : j < l.length), j < i → l[j] ≠ c) : ∀ j (hj : j < l.length), j < i + 1 → l[j] ≠ c := by
  intro j hj hlt
  by_cases e : j = i
  · subst e; exact hne
  · exact hno j hj (by omega)
theorem index_first {l : List UInt8} {c : UInt8} {i : Nat} (hi : i < l.length) (he : l[i] = c) (hno : ∀ j (hj : j < l.length), j < i → l[j] ≠ c) : Lib.indexByte l c = (i : Int) := by
  have hg := Lib.indexByte_ge l c
  rcases (by omega : Lib.indexByte l c = -1 ∨ 0 ≤ Lib.indexByte l c) with h | h
  · exact absurd (by rw [List.getElem?_eq_getElem hi, he]) (Lib.indexByte_none h i)
  · obtain ⟨k, hk⟩ : ∃ k : Nat, Lib.indexByte l c = (k : Int) := ⟨(Lib.indexByte l c).toNat, by omega⟩
    obtain ⟨h1, h2⟩ := Lib.indexByte_some hk
    obtain ⟨hkl, hke⟩ := List.getElem?_eq_some_iff.1 h1
    have a1 : ¬ k < i := fun h => hno k hkl h hke
    have a2 : ¬ i < k := fun h => h2 i h (by rw [List.getElem?_eq_getElem hi, he])
    rw [hk]
    omega
theorem index_all {l : List UInt8} {c : UInt8} (hno : ∀ j (hj : j < l.length), l[j] ≠ c) : Lib.indexByte l c = -1 := by
  have hg := Lib.indexByte_ge l c
  rcases (by omega : Lib.indexByte l c = -1 ∨ 0 ≤ Lib.indexByte l c) with h | h
  · exact h
  · obtain ⟨k, hk⟩ : ∃ k : Nat, Lib.indexByte l c = (k : Int) := ⟨(Lib.indexByte l c).toNat, by omega⟩
    obtain ⟨h1, h2⟩ := Lib.indexByte_some hk
    obtain ⟨hkl, hke⟩ := List.getElem?_eq_some_iff.1 h1
    exact absurd hke (hno k hkl)
theorem cut_l0 (x : ByteArray) (c : UInt8) (hx : x.size ≤ 8796093022208) : ∀ (n i : Nat), i + n = x.size → (∀ j (hj : j < x.data.toList.length), j < i → x.data.toList[j] ≠ c) → ∀ k, Z.pumiceref14_cut.l0 (n + 1 + k) x (c.toNat : Int) (i : Int) = some (cutR x c) := by
  have hs : x.data.toList.length = x.size := by rw [Array.length_toList]; rfl
  intro n
  induction n with
  | zero =>
    intro i hi hno k
    rw [show 0 + 1 + k = k + 1 by omega, Z.pumiceref14_cut.l0, if_neg (by omega)]
    have := index_all (l := x.data.toList) (c := c) (fun j hj => hno j hj (by omega))
    unfold cutR
    rw [this]
    rfl
  | succ n ih =>
    intro i hi hno k
    have hil : i < x.data.toList.length := by omega
    rw [show n + 1 + 1 + k = (n + 1 + k) + 1 by omega, Z.pumiceref14_cut.l0, if_pos (by omega), if_pos (by omega), bt_nat x i hil, w64 (by omega) (by omega)]
    by_cases he : x.data.toList[i] = c
    · rw [if_pos (by rw [he]), if_pos (by omega), if_pos (by omega), if_pos (by omega)]
      have := index_first hil he hno
      unfold cutR
      rw [this]
      show _ = some (x.extract 0 i, x.extract (i + 1) x.size, true)
      rw [Int.toNat_natCast, show ((i : Int) + 1).toNat = i + 1 by omega]
    · rw [if_neg (fun h => he (UInt8.toNat_inj.1 (by omega)))]
      exact ih (i + 1) (by omega) (index_drop_ne hil he hno) k
theorem cut_f (x : ByteArray) (c : UInt8) (hx : x.size ≤ 8796093022208) (k : Nat) : Z.pumiceref14_cut.f (x.size + 1 + k) x (c.toNat : Int) = some (cutR x c) :=
  cut_l0 x c hx x.size 0 (by omega) (fun j hj h => absurd h (Nat.not_lt_zero _)) k
theorem cutR_size (x : ByteArray) (c : UInt8) : (cutR x c).1.size ≤ x.size ∧ (cutR x c).2.1.size ≤ x.size ∧ (0 < x.size → (cutR x c).2.1.size < x.size) := by
  unfold cutR
  split
  · refine ⟨?_, ?_, ?_⟩
    · show (x.extract 0 _).size ≤ _
      rw [ByteArray.size_extract]; omega
    · show (x.extract _ _).size ≤ _
      rw [ByteArray.size_extract]; omega
    · intro h
      show (x.extract _ _).size < _
      rw [ByteArray.size_extract]; omega
  · refine ⟨Nat.le_refl _, ?_, ?_⟩
    · show (0 : Nat) ≤ _; omega
    · intro h; show (0 : Nat) < _; omega
theorem cutR_app (a r : List UInt8) (c : UInt8) (h : ∀ b ∈ a, b ≠ c) : cutR (bs (a ++ c :: r)) c = (bs a, bs r, true) := by
  have hd : (bs (a ++ c :: r)).data.toList = a ++ c :: r := rfl
  have hi : Lib.indexByte (a ++ c :: r) c = (a.length : Int) := by
    refine index_first (by simp) (by simp) (fun j hj hlt => ?_)
    rw [List.getElem_append_left hlt]
    exact h _ (List.getElem_mem _)
  unfold cutR
  rw [hd, hi]
  show ((bs (a ++ c :: r)).extract 0 a.length, (bs (a ++ c :: r)).extract (a.length + 1) (bs (a ++ c :: r)).size, true) = _
  congr 1
  · apply ByteArray.ext
    apply Array.ext'
    simp [bs]
  · congr 1
    apply ByteArray.ext
    apply Array.ext'
    rw [Lib.extract_to_end]
    show (a ++ c :: r).drop (a.length + 1) = r
    rw [List.drop_append]
    simp
theorem cutR_none (a : List UInt8) (c : UInt8) (h : ∀ b ∈ a, b ≠ c) : cutR (bs a) c = (bs a, ⟨#[]⟩, false) := by
  have hd : (bs a).data.toList = a := rfl
  unfold cutR
  rw [hd, index_all (fun j hj => h _ (List.getElem_mem _))]
  rfl
/-! numbers -/
theorem num_mono (k : Nat) : (∀ y0 y1, LeO (Z.pumiceref14_numbers.l0 k y0 y1) (Z.pumiceref14_numbers.l0 (k + 1) y0 y1)) ∧ (∀ y0 y1 y2 y3 y4, LeO (Z.pumiceref14_numbers.l1 k y0 y1 y2 y3 y4) (Z.pumiceref14_numbers.l1 (k + 1) y0 y1 y2 y3 y4)) := Z.pumiceref14_numbers.mono_l k
/-- A word's loop ends, if what follows ends. -/
theorem l1_total (w rest : ByteArray) (hw : w.size ≤ 8796093022208) (x3 : List Int) (hx : x3.length < 17592186044416) (hr : ∀ n : Int, ∃ k r, Z.pumiceref14_numbers.l0 k rest (x3 ++ [n]) = some r) : ∀ (n i : Nat), i + n = w.size → ∀ acc, ∃ k r, Z.pumiceref14_numbers.l1 k x3 w rest acc (i : Int) = some r := by
  intro n
  induction n with
  | zero =>
    intro i hi acc
    obtain ⟨k, r, h⟩ := hr acc
    refine ⟨k + 1, r, ?_⟩
    rw [Z.pumiceref14_numbers.l1, if_neg (by omega), if_pos hx]
    exact h
  | succ n ih =>
    intro i hi acc
    have e1 : wrap64 ((i : Int) + 1) = ((i + 1 : Nat) : Int) := by rw [w64 (by omega) (by omega)]; omega
    obtain ⟨k, r, h⟩ := ih (i + 1) (by omega) (wrap64 (wrap64 (acc * 10) + (bt w (i : Int) - 48) % 256))
    by_cases h1 : bt w (i : Int) < 48
    · exact ⟨1, x3, by rw [Z.pumiceref14_numbers.l1, if_pos (by omega), if_pos (by omega), if_pos h1]⟩
    · by_cases h2 : bt w (i : Int) > 57
      · exact ⟨1, x3, by rw [Z.pumiceref14_numbers.l1, if_pos (by omega), if_pos (by omega), if_neg h1, if_pos h2]⟩
      · by_cases h3 : (w.size : Int) > 9
        · exact ⟨1, x3, by rw [Z.pumiceref14_numbers.l1, if_pos (by omega), if_pos (by omega), if_neg h1, if_neg h2, if_pos h3]⟩
        · exact ⟨k + 1, r, by rw [Z.pumiceref14_numbers.l1, if_pos (by omega), if_pos (by omega), if_neg h1, if_neg h2, if_neg h3, e1]; exact h⟩
theorem isE (x : ByteArray) : x.toList = ([] : List UInt8) ↔ x.size = 0 := by
  rw [ByteArray.toList_eq, ← List.length_eq_zero_iff, Array.length_toList]
  rfl
/-- The words end. -/
theorem l0_total : ∀ (n : Nat) (x : ByteArray), x.size ≤ n → n ≤ 8796093022208 → ∀ x3 : List Int, x3.length + n < 17592186044416 → ∃ k r, Z.pumiceref14_numbers.l0 k x x3 = some r := by
  intro n
  induction n with
  | zero =>
    intro x hx _ x3 _
    exact ⟨1, x3, by rw [Z.pumiceref14_numbers.l0, if_pos ((isE x).2 (by omega))]⟩
  | succ n ih =>
    intro x hx hn x3 hl
    by_cases h0 : x.size = 0
    · exact ⟨1, x3, by rw [Z.pumiceref14_numbers.l0, if_pos ((isE x).2 h0)]⟩
    · obtain ⟨c1, c2, c3⟩ := cutR_size x 32
      obtain ⟨k, r, h⟩ := l1_total (cutR x 32).1 (cutR x 32).2.1 (by omega) x3 (by omega) (fun v => ih _ (by omega) (by omega) (x3 ++ [v]) (by rw [List.length_append, List.length_singleton]; omega)) (cutR x 32).1.size 0 (by omega) 0
      refine ⟨(x.size + 1 + k) + 1, r, ?_⟩
      rw [Z.pumiceref14_numbers.l0, if_neg (fun e => h0 ((isE x).1 e)), show (32 : Int) = ((32 : UInt8).toNat : Int) from rfl, cut_f x 32 (by omega) k]
      show Z.pumiceref14_numbers.l1 (x.size + 1 + k) x3 (cutR x 32).1 (cutR x 32).2.1 0 0 = some r
      have := mono_le (f := fun k => Z.pumiceref14_numbers.l1 k x3 (cutR x 32).1 (cutR x 32).2.1 0 0) (fun k => (num_mono k).2 _ _ _ _ _) h (x.size + 1)
      rw [show x.size + 1 + k = k + (x.size + 1) by omega]
      exact this
open Classical in
/-- The document's numbers of a line. -/
noncomputable def rnumR (x : ByteArray) : List Int := if h : ∃ r k, Z.pumiceref14_numbers.f k x = some r then h.choose else []
theorem rnumR_eq {x : ByteArray} {k : Nat} {r : List Int} (h : Z.pumiceref14_numbers.f k x = some r) : rnumR x = r := by
  have hx : ∃ r k, Z.pumiceref14_numbers.f k x = some r := ⟨r, k, h⟩
  unfold rnumR
  rw [dif_pos hx]
  obtain ⟨k2, h2⟩ := hx.choose_spec
  have m1 := mono_le (f := fun k => Z.pumiceref14_numbers.f k x) (fun k => Z.pumiceref14_numbers.mono x k) h k2
  have m2 := mono_le (f := fun k => Z.pumiceref14_numbers.f k x) (fun k => Z.pumiceref14_numbers.mono x k) h2 k
  rw [show k2 + k = k + k2 by omega] at m2
  exact Option.some.inj (m2.symm.trans m1)
theorem rnumR_f (x : ByteArray) (hx : x.size ≤ 8796093022208) : ∃ k, Z.pumiceref14_numbers.f k x = some (rnumR x) := by
  obtain ⟨k, r, h⟩ := l0_total x.size x (Nat.le_refl _) hx [] (by simp; omega)
  exact ⟨k, by rw [rnumR_eq (x := x) (k := k) (r := r) h]; exact h⟩
/-- A word of digits. -/
def valD (acc : Nat) (l : List UInt8) : Nat := l.foldl (fun a c => a * 10 + (c.toNat - 48)) acc
theorem val_app (acc : Nat) (a b : List UInt8) : valD acc (a ++ b) = valD (valD acc a) b := List.foldl_append
theorem val_dec : ∀ (k u : Nat), u < 10 ^ (k + 1) → valD 0 (Lib.decDigits u) = u := by
  have hone : ∀ d : Nat, d < 10 → (UInt8.ofNat (48 + d)).toNat = 48 + d := fun d hd => by rw [UInt8.toNat_ofNat_of_lt']; show 48 + d < 256; omega
  intro k
  induction k with
  | zero =>
    intro u hu
    rw [Lib.decDigits, dif_pos (by omega)]
    show 0 * 10 + ((UInt8.ofNat (48 + u)).toNat - 48) = u
    rw [hone u (by omega)]
    omega
  | succ k ih =>
    intro u hu
    rw [Lib.decDigits]
    split
    · show 0 * 10 + ((UInt8.ofNat (48 + u)).toNat - 48) = u
      rw [hone u (by omega)]
      omega
    · rw [val_app, ih (u / 10) (by rw [Nat.pow_succ] at hu; omega)]
      show u / 10 * 10 + ((UInt8.ofNat (48 + u % 10)).toNat - 48) = u
      rw [hone _ (Nat.mod_lt _ (by decide))]
      omega
theorem val_itoa {n : Int} (h : Sml n) : (valD 0 (Lib.itoa n) : Int) = n := by
  have h1 := h.1; have h2 := h.2
  rw [itoa_dec n h.1, val_dec 7 _ (by omega)]
  omega
theorem val_lt (acc : Nat) : ∀ (l : List UInt8) (m : Nat), (∀ c ∈ l, 48 ≤ c.toNat ∧ c.toNat ≤ 57) → acc < 10 ^ m → valD acc l < 10 ^ (m + l.length) := by
  intro l
  induction l generalizing acc with
  | nil => intro m _ h; exact h
  | cons c r ih =>
    intro m hc h
    have h1 := hc c (List.mem_cons_self ..)
    have := ih (acc * 10 + (c.toNat - 48)) (m + 1) (fun d hd => hc d (List.mem_cons_of_mem _ hd)) (by rw [Nat.pow_succ]; omega)
    rw [List.length_cons, show m + (r.length + 1) = m + 1 + r.length by omega]
    exact this
/-- The word's loop over digits. -/
theorem l1_word (l : List UInt8) (rest : ByteArray) (x3 : List Int) (hl : l.length ≤ 8) (hx : x3.length < 17592186044416) (hd : ∀ c ∈ l, 48 ≤ c.toNat ∧ c.toNat ≤ 57) : ∀ (n i : Nat), i + n = l.length → ∀ k, Z.pumiceref14_numbers.l1 (n + 1 + k) x3 (bs l) rest (valD 0 (l.take i) : Int) (i : Int) = Z.pumiceref14_numbers.l0 k rest (x3 ++ [(valD 0 l : Int)]) := by
  intro n
  induction n with
  | zero =>
    intro i hi k
    rw [show 0 + 1 + k = k + 1 by omega, Z.pumiceref14_numbers.l1, bs_size, if_neg (by omega), if_pos hx, List.take_of_length_le (by omega)]
  | succ n ih =>
    intro i hi k
    have hil : i < l.length := by omega
    have hb : bt (bs l) (i : Int) = ((l[i]).toNat : Int) := bt_nat (bs l) i hil
    have hc := hd _ (List.getElem_mem hil)
    have hv : valD 0 (l.take i) < 10 ^ 8 := by
      have h1 := val_lt 0 (l.take i) 0 (fun c hc => hd c (List.mem_of_mem_take hc)) (by decide)
      have h2 : 10 ^ (0 + (l.take i).length) ≤ 10 ^ 8 := Nat.pow_le_pow_right (by decide) (by rw [List.length_take]; omega)
      omega
    have e8 : (10 : Nat) ^ 8 = 100000000 := by decide
    have e0 : l.take (i + 1) = l.take i ++ [l[i]] := by rw [List.take_add_one, List.getElem?_eq_getElem hil]; rfl
    have e1 : wrap64 ((i : Int) + 1) = ((i + 1 : Nat) : Int) := by rw [w64 (by omega) (by omega)]; omega
    have e2 : wrap64 (wrap64 ((valD 0 (l.take i) : Int) * 10) + (((l[i]).toNat : Int) - 48) % 256) = (valD 0 (l.take (i + 1)) : Int) := by
      rw [e0, val_app]
      show _ = ((valD 0 (l.take i) * 10 + ((l[i]).toNat - 48) : Nat) : Int)
      generalize valD 0 (l.take i) = v at *
      rw [w64 (n := (v : Int) * 10) (by omega) (by omega), w64 (by omega) (by omega)]
      omega
    rw [show n + 1 + 1 + k = (n + 1 + k) + 1 by omega, Z.pumiceref14_numbers.l1, bs_size, hb, if_pos (by omega), if_pos (by omega), if_neg (by omega), if_neg (by omega), if_neg (by omega), e1, e2]
    exact ih (i + 1) (by omega) k
theorem l0_step {n : Int} (hn : Sml n) (x3 : List Int) (hx : x3.length < 17592186044416) {x rest : ByteArray} {b : Bool} (hc : cutR x 32 = (bs (Lib.itoa n), rest, b)) (hx0 : x.size ≠ 0) (hxs : x.size ≤ 8796093022208) {k : Nat} {r : List Int} (h : Z.pumiceref14_numbers.l0 k rest (x3 ++ [n]) = some r) : ∃ k, Z.pumiceref14_numbers.l0 k x x3 = some r := by
  have h1 := l1_word (Lib.itoa n) rest x3 (itoa_lenS hn) hx (itoa_mem hn) (Lib.itoa n).length 0 (by omega) k
  rw [val_itoa hn, h] at h1
  refine ⟨(x.size + 1 + ((Lib.itoa n).length + 1 + k)) + 1, ?_⟩
  rw [Z.pumiceref14_numbers.l0, if_neg (fun e => hx0 ((isE x).1 e)), show (32 : Int) = ((32 : UInt8).toNat : Int) from rfl, cut_f x 32 hxs _, hc]
  show Z.pumiceref14_numbers.l1 _ x3 (bs (Lib.itoa n)) rest 0 0 = some r
  have := mono_le (f := fun k => Z.pumiceref14_numbers.l1 k x3 (bs (Lib.itoa n)) rest 0 0) (fun k => (num_mono k).2 _ _ _ _ _) h1 (x.size + 1)
  rw [show x.size + 1 + ((Lib.itoa n).length + 1 + k) = (Lib.itoa n).length + 1 + k + (x.size + 1) by omega]
  exact this
theorem l0_end (x3 : List Int) : ∃ k, Z.pumiceref14_numbers.l0 k ⟨#[]⟩ x3 = some x3 := ⟨1, by rw [Z.pumiceref14_numbers.l0, if_pos ((isE _).2 rfl)]⟩
/-- A word that begins with another byte ends it. -/
theorem l0_closed (x3 : List Int) : ∃ k, Z.pumiceref14_numbers.l0 k (bs [99, 108, 111, 115, 101, 100]) x3 = some x3 := by
  refine ⟨8 + 1, ?_⟩
  rw [Z.pumiceref14_numbers.l0, if_neg (fun e => absurd ((isE _).1 e) (by decide)), show (32 : Int) = ((32 : UInt8).toNat : Int) from rfl, show 8 = (bs [99, 108, 111, 115, 101, 100]).size + 1 + 1 from rfl, cut_f _ 32 (by decide) 1, cutR_none _ 32 (by decide)]
  show Z.pumiceref14_numbers.l1 8 x3 (bs [99, 108, 111, 115, 101, 100]) ⟨#[]⟩ 0 0 = some x3
  rw [Z.pumiceref14_numbers.l1, if_pos (by decide), if_pos (by decide), if_neg (by decide), if_pos (by decide)]
theorem len_sp {n : Int} (h : Sml n) (r : List UInt8) : (bs (Lib.itoa n ++ r)).size ≠ 0 := by
  rw [bs_size, List.length_append]
  have := List.length_pos_iff.2 (itoa_ne h)
  omega
theorem rnum_2 {a b : Int} (ha : Sml a) (hb : Sml b) : rnumR (bs (sp2 a b)) = [a, b] := by
  have la := itoa_lenS ha; have lb := itoa_lenS hb
  obtain ⟨k0, h0⟩ := l0_end [a, b]
  obtain ⟨k1, h1⟩ := l0_step hb [a] (by simp) (cutR_none _ 32 (no32 hb)) (by have := len_sp hb []; rwa [List.append_nil] at this) (by rw [bs_size]; omega) h0
  obtain ⟨k2, h2⟩ := l0_step ha [] (by decide) (cutR_app _ _ 32 (no32 ha)) (len_sp ha _) (by rw [bs_size]; simp; omega) h1
  exact rnumR_eq (k := k2) h2
theorem rnum_4 {a b c d : Int} (ha : Sml a) (hb : Sml b) (hc : Sml c) (hd : Sml d) (cl : Bool) : rnumR (bs (sp4 a b c d ++ if cl = true then closedB else [])) = [a, b, c, d] := by
  have la := itoa_lenS ha; have lb := itoa_lenS hb; have lc := itoa_lenS hc; have ld := itoa_lenS hd
  have h1 : ∃ k, Z.pumiceref14_numbers.l0 k (bs (Lib.itoa d ++ if cl = true then closedB else [])) [a, b, c] = some [a, b, c, d] := by
    cases cl
    · rw [if_neg (by decide), List.append_nil]
      obtain ⟨k0, h0⟩ := l0_end [a, b, c, d]
      exact l0_step hd [a, b, c] (by simp) (cutR_none _ 32 (no32 hd)) (by have := len_sp hd []; rwa [List.append_nil] at this) (by rw [bs_size]; omega) h0
    · rw [if_pos rfl]
      obtain ⟨k0, h0⟩ := l0_closed [a, b, c, d]
      exact l0_step hd [a, b, c] (by simp) (cutR_app _ [99, 108, 111, 115, 101, 100] 32 (no32 hd)) (len_sp hd _) (by rw [bs_size]; simp [closedB]; omega) h0
  obtain ⟨k1, h1⟩ := h1
  have hT : (if cl = true then closedB else []).length ≤ 7 := by cases cl <;> decide
  generalize (if cl = true then closedB else []) = T at *
  obtain ⟨k2, h2⟩ := l0_step hc [a, b] (by simp) (cutR_app _ _ 32 (no32 hc)) (len_sp hc _) (by rw [bs_size]; simp; omega) h1
  obtain ⟨k3, h3⟩ := l0_step hb [a] (by simp) (cutR_app _ _ 32 (no32 hb)) (len_sp hb _) (by rw [bs_size]; simp; omega) h2
  obtain ⟨k4, h4⟩ := l0_step ha [] (by decide) (cutR_app _ _ 32 (no32 ha)) (len_sp ha _) (by rw [bs_size]; simp; omega) h3
  refine rnumR_eq (k := k4) ?_
  unfold sp4 Z.pumiceref14_numbers.f
  simpa [List.append_assoc] using h4
end Go.Proofs.YtlpnggaeepjjfaaGreatDoor.Bo

namespace Go.Proofs.YtlpnggaeepjjfaaGreatDoor.Bo
open Go.RowKit Go.Proofs.YtlpnggaeepjjfaaGreatDoorW.PrintWords Go.Proofs.YtlpnggaeepjjfaaGreatDoor.Cut
set_option linter.unusedVariables false
set_option linter.unusedSimpArgs false
/-- Does a line end in the word for closed? -/
def cloR (s : ByteArray) : Bool := decide (7 < s.size) && decide (s.extract (s.size - 7) s.size = bs closedB)
def opsR (size : Int) (L : List Rw) (a b c d : Int) : Option (List Rw) :=
  if (takeR L a b).1 ≠ 0 then none else
  if (useR size (takeR L a b).2 a c).1 ≠ 0 then none else
  if d > c then none else
  if (killR (useR size (takeR L a b).2 a c).2 a (wrap64 (c - d))).1 ≠ 0 then none else some (killR (useR size (takeR L a b).2 a c).2 a (wrap64 (c - d))).2
def lineQ (size : Int) (L : List Rw) (xs : List Int) (cl : Bool) : Option (List Rw) := match xs with
  | [a, b, c, d] => (opsR size L a b c d).map fun L3 => if cl = true then (closeR L3 a).2 else L3
  | _ => none
noncomputable def lineR (size : Int) (L : List Rw) (s : ByteArray) : Option (List Rw) := lineQ size L (rnumR s) (cloR s)
noncomputable def foldR (size : Int) : Nat → ByteArray → List Rw → Option (List Rw)
  | 0, _, _ => none
  | f + 1, rest, L => if rest.size = 0 then some L else (lineR size L (cutR rest 10).1).bind fun L' => foldR size f (cutR rest 10).2.1 L'
noncomputable def parseR (text : ByteArray) : Option (Int × List Rw) :=
  if (cutR text 10).2.2 = false then none else
  match rnumR (cutR text 10).1 with
  | [n, size] =>
    if n < 1 ∨ 256 < n ∨ size < 1 ∨ 16777216 < size then none else
    match foldR size (text.size + 1) (cutR text 10).2.1 (List.replicate n.toNat zRw) with
    | none => none
    | some L => if textR size L = text then some (size, L) else none
  | _ => none
/-- Books stay books. -/
theorem take_Ok2 {size : Int} {L : List Rw} (hO : Ok2 size L) (a b : Int) : Ok2 size (takeR L a b).2 := by
  unfold takeR
  cases ht : there L a with
  | none => exact hO
  | some i =>
    dsimp only
    split
    · exact hO
    · split
      · exact hO
      · have := hO.ok.lo
        exact hO.set (by dsimp only; omega) (by dsimp only; omega)
theorem use_Ok2 {size : Int} {L : List Rw} (hO : Ok2 size L) (a n : Int) : Ok2 size (useR size L a n).2 := by
  unfold useR
  cases ht : there L a with
  | none => exact hO
  | some i =>
    have hr := hO.ok.rows _ (getD_mem (there_some ht).2)
    dsimp only
    split
    · exact hO
    · split
      · exact hO
      · split
        · exact hO
        · split
          · exact hO
          · exact hO.set (by dsimp only; omega) (fun h => by dsimp only at h; omega)
theorem kill_Ok2 {size : Int} {L : List Rw} (hO : Ok2 size L) (a n : Int) : Ok2 size (killR L a n).2 := by
  unfold killR
  cases ht : there L a with
  | none => exact hO
  | some i =>
    have hr := hO.ok.rows _ (getD_mem (there_some ht).2)
    dsimp only
    split
    · exact hO
    · split
      · exact hO
      · split
        · exact hO
        · exact hO.set (by dsimp only; omega) (fun h => by dsimp only at h; omega)
theorem close_Ok2 {size : Int} {L : List Rw} (hO : Ok2 size L) (a : Int) : Ok2 size (closeR L a).2 := by
  unfold closeR
  cases ht : there L a with
  | none => exact hO
  | some i =>
    have hr := hO.ok.rows _ (getD_mem (there_some ht).2)
    dsimp only
    split
    · exact hO
    · exact hO.set (by dsimp only; omega) (fun h => by dsimp only at h; omega)
theorem free_Ok2 {size : Int} {L : List Rw} (hO : Ok2 size L) (a : Int) : Ok2 size (freeR L a).2 := by
  unfold freeR
  cases ht : there L a with
  | none => exact hO
  | some i =>
    have := hO.ok.lo
    dsimp only
    split
    · exact hO
    · exact hO.set (by show (0 : Int) ≤ 0 ∧ (0 : Int) ≤ 3 ∧ (0 : Int) ≤ 0 ∧ (0 : Int) ≤ 0 ∧ (0 : Int) ≤ size; omega) (fun _ => rfl)
theorem ops_Ok2 {size : Int} {L L' : List Rw} (hO : Ok2 size L) {a b c d : Int} (h : opsR size L a b c d = some L') : Ok2 size L' := by
  unfold opsR at h
  split at h
  · cases h
  · split at h
    · cases h
    · split at h
      · cases h
      · split at h
        · cases h
        · cases h
          exact kill_Ok2 (use_Ok2 (take_Ok2 hO _ _) _ _) _ _
theorem lineQ_Ok2 {size : Int} {L L' : List Rw} (hO : Ok2 size L) {xs : List Int} {cl : Bool} (h : lineQ size L xs cl = some L') : Ok2 size L' := by
  unfold lineQ at h
  split at h
  · obtain ⟨L3, h3, rfl⟩ := Option.map_eq_some_iff.1 h
    split
    · exact close_Ok2 (ops_Ok2 hO h3) _
    · exact ops_Ok2 hO h3
  · cases h
theorem foldR_Ok2 {size : Int} : ∀ (f : Nat) (rest : ByteArray) (L L' : List Rw), Ok2 size L → foldR size f rest L = some L' → Ok2 size L'
  | 0, _, _, _, _, h => by cases h
  | f + 1, rest, L, L', hO, h => by
    rw [foldR] at h
    split at h
    · cases h; exact hO
    · obtain ⟨L2, h1, h2⟩ := Option.bind_eq_some_iff.1 h
      exact foldR_Ok2 f _ _ _ (lineQ_Ok2 hO h1) h2
theorem parseR_sound {text : ByteArray} {size : Int} {L : List Rw} (h : parseR text = some (size, L)) : Ok2 size L ∧ textR size L = text := by
  unfold parseR at h
  split at h
  · cases h
  · split at h
    · rename_i n sz _
      split at h
      · cases h
      · rename_i hb
        split at h
        · cases h
        · rename_i L' hf
          split at h
          · rename_i ht
            cases h
            exact ⟨foldR_Ok2 _ _ _ _ (new_Ok2 (by omega) (by omega) (by omega) (by omega)) hf, ht⟩
          · cases h
    · cases h
theorem there_in {L : List Rw} {k : Nat} (hk : k < L.length) : there L (k : Int) = some k := by
  unfold there
  rw [if_pos (by omega), Int.toNat_natCast]
theorem getD_set {L : List Rw} {k : Nat} (hk : k < L.length) (x : Rw) : (L.set k x).getD k zRw = x := by
  rw [List.getD_eq_getElem?_getD, List.getElem?_set_self hk]; rfl
theorem line_stepR {size : Int} {L : List Rw} (hO : Ok2 size L) {k : Nat} (hk : k < L.length) (hu : (L.getD k zRw).use ≠ 0) : lineR size (upto L k) (bs (lineT k (L.getD k zRw))) = some (upto L (k + 1)) := by
  obtain ⟨s1, s2, s3, s4⟩ := row_sml hO.ok hk
  have hr := hO.ok.rows _ (getD_mem hk)
  have hx := upto_at L k hk
  have hs := upto_set L k hk
  have hl := upto_len L k (by omega)
  have h2 := hO.ok.hi
  generalize hX : L.getD k zRw = X at *
  generalize hU : upto L k = U at *
  have hkU : k < U.length := by omega
  have hnum : rnumR (bs (lineT k X)) = [(k : Int), X.use, X.used, X.live] := rnum_4 s1 s2 s3 s4 X.closed
  have hclo : cloR (bs (lineT k X)) = X.closed := by
    have hsz : (bs (lineT k X)).size = (sp4 (k : Int) X.use X.used X.live).length + (if X.closed = true then 7 else 0) := by
      rw [bs_size, lineT, List.length_append]
      cases X.closed <;> rfl
    have hpos := List.length_pos_iff.2 (sp4_ne (a := (k : Int)) (b := X.use) (c := X.used) (d := X.live))
    have hdat : ∀ n, ((bs (lineT k X)).extract n (bs (lineT k X)).size).data.toList = (lineT k X).drop n := fun n => Lib.extract_to_end _ n
    unfold cloR
    cases hc : X.closed with
    | true =>
      rw [hc, if_pos rfl] at hsz
      have h1 : (bs (lineT k X)).extract ((bs (lineT k X)).size - 7) (bs (lineT k X)).size = bs closedB := by
        apply ByteArray.ext
        apply Array.ext'
        rw [hdat, hsz, Nat.add_sub_cancel, lineT, hc, if_pos rfl, List.drop_left']
        · rfl
        · rfl
      rw [h1]
      rw [decide_eq_true (by omega : 7 < (bs (lineT k X)).size), decide_eq_true rfl]
      rfl
    | false =>
      rw [Bool.and_eq_false_iff]
      right
      rw [decide_eq_false_iff_not]
      intro e
      have h1 := congrArg (fun b : ByteArray => b.data.toList) e
      have h1 : ((bs (lineT k X)).extract ((bs (lineT k X)).size - 7) (bs (lineT k X)).size).data.toList = (bs closedB).data.toList := h1
      rw [hdat] at h1
      refine sp4_last s4 (a := (k : Int)) (b := X.use) (c := X.used) ?_
      have h3 : lineT k X = sp4 (k : Int) X.use X.used X.live := by rw [lineT, hc, if_neg (by decide), List.append_nil]
      rw [h3] at h1
      have h4 : (bs closedB).data.toList = closedB := rfl
      rw [h4] at h1
      rw [← h1]
      exact List.drop_suffix _ _
  unfold lineR
  rw [hnum, hclo]
  have e1 : takeR U (k : Int) X.use = (0, U.set k ⟨X.use, 0, 0, false⟩) := by
    unfold takeR
    rw [there_in hkU]
    dsimp only
    rw [if_neg (by omega), hx, if_neg (by decide)]
  have e2 : useR size (U.set k ⟨X.use, 0, 0, false⟩) (k : Int) X.used = (0, U.set k ⟨X.use, X.used, X.used, false⟩) := by
    unfold useR
    rw [there_in (by rw [List.length_set]; exact hkU)]
    dsimp only
    rw [getD_set hkU, if_neg (by omega), if_neg (by dsimp only; omega), if_neg (by simp), if_neg (by dsimp only; omega), List.set_set]
    simp
  have e3 : killR (U.set k ⟨X.use, X.used, X.used, false⟩) (k : Int) (X.used - X.live) = (0, U.set k ⟨X.use, X.used, X.live, false⟩) := by
    unfold killR
    rw [there_in (by rw [List.length_set]; exact hkU)]
    dsimp only
    rw [getD_set hkU, if_neg (by omega), if_neg (by dsimp only; omega), if_neg (by dsimp only; omega), List.set_set]
    dsimp only
    rw [show X.used - (X.used - X.live) = X.live by omega]
  have e4 : closeR (U.set k ⟨X.use, X.used, X.live, false⟩) (k : Int) = (0, U.set k ⟨X.use, X.used, X.live, true⟩) := by
    unfold closeR
    rw [there_in (by rw [List.length_set]; exact hkU)]
    dsimp only
    rw [getD_set hkU, if_neg (by dsimp only; omega), List.set_set]
  have e0 : opsR size U (k : Int) X.use X.used X.live = some (U.set k ⟨X.use, X.used, X.live, false⟩) := by
    unfold opsR
    rw [e1, if_neg (by simp), e2, if_neg (by simp), if_neg (by omega), w64 (by omega) (by omega), e3, if_neg (by simp)]
  unfold lineQ
  dsimp only
  rw [e0]
  show some _ = _
  rw [← hs]
  congr 1
  obtain ⟨u, a, l, c⟩ := X
  cases c
  · rfl
  · exact congrArg Prod.snd e4
theorem fold_linesR {size : Int} {L : List Rw} (hO : Ok2 size L) : ∀ (m j : Nat), j + m = L.length → ∀ f, (endl ((linesK L L.length).drop (linesK L j).length)).length < f → foldR size f (bs (endl ((linesK L L.length).drop (linesK L j).length))) (upto L j) = some L
  | 0, j, hj, f, hf => by
    obtain rfl : j = L.length := by omega
    obtain ⟨f, rfl⟩ : ∃ g, f = g + 1 := ⟨f - 1, by omega⟩
    rw [List.drop_length, foldR, if_pos (show (bs (endl [])).size = 0 from rfl), upto_full]
  | m + 1, j, hj, f, hf => by
    have ih := fold_linesR hO m (j + 1) (by omega)
    by_cases hu : (L.getD j zRw).use = 0
    · have e1 : linesK L (j + 1) = linesK L j := by rw [linesK, if_pos hu, List.append_nil]
      rw [e1, upto_same L j (by omega) (hO.zr _ (getD_mem (by omega)) hu)] at ih
      exact ih f hf
    · have e1 : linesK L (j + 1) = linesK L j ++ [lineT j (L.getD j zRw)] := by rw [linesK, if_neg hu]
      have e2 : (linesK L (j + 1)).length = (linesK L j).length + 1 := by rw [e1, List.length_append, List.length_singleton]
      have hp := lines_pre L (j + 1) (L.length - (j + 1))
      rw [show j + 1 + (L.length - (j + 1)) = L.length by omega] at hp
      obtain ⟨t, ht⟩ := hp
      have e3 : (linesK L L.length).drop (linesK L j).length = lineT j (L.getD j zRw) :: (linesK L L.length).drop (linesK L (j + 1)).length := by
        rw [← ht, List.drop_left' rfl, e1, List.append_assoc, List.drop_left' rfl]
        rfl
      obtain ⟨s1, s2, s3, s4⟩ := row_sml hO.ok (show j < L.length by omega)
      have e4 : endl (lineT j (L.getD j zRw) :: (linesK L L.length).drop (linesK L (j + 1)).length) = lineT j (L.getD j zRw) ++ 10 :: endl ((linesK L L.length).drop (linesK L (j + 1)).length) := by simp [endl]
      rw [e3, e4] at hf ⊢
      obtain ⟨f, rfl⟩ : ∃ g, f = g + 1 := ⟨f - 1, by omega⟩
      have hc := cutR_app (lineT j (L.getD j zRw)) (endl ((linesK L L.length).drop (linesK L (j + 1)).length)) 10 (line_no10 s1 s2 s3 s4)
      rw [foldR, if_neg (by rw [bs_size]; simp), hc, line_stepR hO (by omega) hu]
      show foldR size f _ (upto L (j + 1)) = some L
      refine ih f ?_
      rw [List.length_append, List.length_cons] at hf
      omega
theorem parseR_text {size : Int} {L : List Rw} (hO : Ok2 size L) : parseR (textR size L) = some (size, L) := by
  have h1 := hO.ok.lo; have h2 := hO.ok.hi; have h3 := hO.ok.len; have h4 := hO.pos
  have sn : Sml (L.length : Int) := ⟨by omega, by omega⟩
  have ss : Sml size := ⟨by omega, by omega⟩
  have e4 : endl (sp2 (L.length : Int) size :: linesK L L.length) = sp2 (L.length : Int) size ++ 10 :: endl (linesK L L.length) := by simp [endl]
  have hc : cutR (textR size L) 10 = (bs (sp2 (L.length : Int) size), bs (endl (linesK L L.length)), true) := by
    rw [textR_lines, e4]
    exact cutR_app _ _ 10 (sp2_no10 sn ss)
  have hz : (textR size L).size = (sp2 (L.length : Int) size).length + ((endl (linesK L L.length)).length + 1) := by
    rw [textR_lines, e4, bs_size, List.length_append, List.length_cons]
  have hf := fold_linesR hO L.length 0 (by omega) ((textR size L).size + 1) (by
    show (endl ((linesK L L.length).drop 0)).length < _
    rw [List.drop_zero]
    omega)
  have hf2 : foldR size ((textR size L).size + 1) (bs (endl (linesK L L.length))) (List.replicate L.length zRw) = some L := by
    have : (linesK L L.length).drop (linesK L 0).length = linesK L L.length := List.drop_zero
    rw [this, upto_zero] at hf
    exact hf
  unfold parseR
  rw [hc, if_neg (by simp)]
  simp only
  rw [rnum_2 sn ss]
  simp only
  rw [if_neg (by omega), Int.toNat_natCast, hf2]
  simp only [if_true]
/-- Both read a text alike. -/
theorem parse_eq (text : ByteArray) : parseP text = parseR text := by
  cases h : parseP text with
  | some p =>
    obtain ⟨size, L⟩ := p
    obtain ⟨hO, rfl⟩ := parseP_sound h
    exact (parseR_text hO).symm
  | none =>
    cases h2 : parseR text with
    | none => rfl
    | some p =>
      obtain ⟨size, L⟩ := p
      obtain ⟨hO, rfl⟩ := parseR_sound h2
      rw [parseP_text hO] at h
      cases h
end Go.Proofs.YtlpnggaeepjjfaaGreatDoor.Bo

namespace Go.Proofs.YtlpnggaeepjjfaaGreatDoor.Bo
open Go.RowKit Go.Sort Go.Proofs.YtlpnggaeepjjfaaGreatDoorW.PrintWords Go.Proofs.YtlpnggaeepjjfaaGreatDoorW.PrintLast
set_option linter.unusedVariables false
set_option linter.unusedSimpArgs false
theorem bdr {B : Nat} {a w : World} (h : Below B a w) : Below B a w.drew := ⟨h.os, h.tape, h.output, h.size, h.block⟩
def insK (L : List Rw) (x : Nat) (out : List Nat) : Nat → List Nat × Bool
  | 0 => ([], false)
  | j + 1 => if (!(insK L x out j).2 && decide (dirtyOf L x > dirtyOf L (out.getD j 0))) = true then ((insK L x out j).1 ++ [x] ++ [out.getD j 0], true) else ((insK L x out j).1 ++ [out.getD j 0], (insK L x out j).2)
def insF (L : List Rw) (x : Nat) (out : List Nat) : List Nat := if (insK L x out out.length).2 = true then (insK L x out out.length).1 else (insK L x out out.length).1 ++ [x]
def badR (L : List Rw) (i : Nat) : Bool := (L.getD i zRw).closed && !decide ((L.getD i zRw).used = (L.getD i zRw).live)
def rvK (L : List Rw) (xs : List Nat) : Nat → List Nat
  | 0 => []
  | k + 1 => if badR L (xs.getD k 0) = true then insF L (xs.getD k 0) (rvK L xs k) else rvK L xs k
theorem insK_mem (L : List Rw) (x : Nat) (out : List Nat) : ∀ j, j ≤ out.length → ∀ y ∈ (insK L x out j).1, y = x ∨ y ∈ out := by
  intro j
  induction j with
  | zero => intro _ y hy; simp [insK] at hy
  | succ j ih =>
    intro hj y hy
    have hm : out.getD j 0 ∈ out := by rw [List.getD_eq_getElem?_getD, List.getElem?_eq_getElem (by omega)]; exact List.getElem_mem _
    rw [insK] at hy
    split at hy
    · simp only [List.mem_append, List.mem_singleton] at hy
      rcases hy with (hy | rfl) | rfl
      · exact ih (by omega) y hy
      · exact .inl rfl
      · exact .inr hm
    · simp only [List.mem_append, List.mem_singleton] at hy
      rcases hy with hy | rfl
      · exact ih (by omega) y hy
      · exact .inr hm
theorem insF_mem (L : List Rw) (x : Nat) (out : List Nat) : ∀ y ∈ insF L x out, y = x ∨ y ∈ out := by
  intro y hy
  unfold insF at hy
  split at hy
  · exact insK_mem L x out _ (Nat.le_refl _) y hy
  · simp only [List.mem_append, List.mem_singleton] at hy
    rcases hy with hy | rfl
    · exact insK_mem L x out _ (Nat.le_refl _) y hy
    · exact .inl rfl
theorem rvK_mem (L : List Rw) (xs : List Nat) : ∀ k, k ≤ xs.length → ∀ y ∈ rvK L xs k, y ∈ xs := by
  intro k
  induction k with
  | zero => intro _ y hy; simp [rvK] at hy
  | succ k ih =>
    intro hk y hy
    have hm : xs.getD k 0 ∈ xs := by rw [List.getD_eq_getElem?_getD, List.getElem?_eq_getElem (by omega)]; exact List.getElem_mem _
    rw [rvK] at hy
    split at hy
    · rcases insF_mem _ _ _ y hy with rfl | hy
      · exact hm
      · exact ih (by omega) y hy
    · exact ih (by omega) y hy
theorem insK_len (L : List Rw) (x : Nat) (out : List Nat) (j : Nat) : (insK L x out j).1.length = j + if (insK L x out j).2 = true then 1 else 0 := by
  induction j with
  | zero => rfl
  | succ j ih =>
    rw [insK]
    split
    · rename_i h
      simp only [Bool.and_eq_true, Bool.not_eq_true'] at h
      rw [h.1] at ih
      simp only [List.length_append, List.length_singleton, if_true]
      simp at ih
      omega
    · simp only [List.length_append, List.length_singleton]
      omega
theorem insF_len (L : List Rw) (x : Nat) (out : List Nat) : (insF L x out).length = out.length + 1 := by
  have := insK_len L x out out.length
  unfold insF
  split
  · rename_i h
    rw [h] at this
    simpa using this
  · rename_i h
    rw [if_neg h] at this
    rw [List.length_append, this]
    rfl
theorem rvK_len (L : List Rw) (xs : List Nat) (k : Nat) : (rvK L xs k).length ≤ k := by
  induction k with
  | zero => simp [rvK]
  | succ k ih =>
    rw [rvK]
    split
    · rw [insF_len]; omega
    · omega
def rvicR (use : Int) (L : List Rw) : List Nat := if use < 1 ∨ 3 < use then [] else rvK L (onR use L) (onR use L).length
theorem R_ints {w : World} {base : Nat} {v : Value} {xs : List Nat} (h : Kd.R (Kd.int .i64) 3 w base (fun _ => True) v (toI xs)) : ∃ A c, v = .slice A xs.length c ∧ ∀ j, j < xs.length → ∃ g o, A = some ⟨g, o, none⟩ ∧ ∀ j, j < xs.length → w.cell? ⟨g, o + j, none⟩ = some (.int .i64 ((xs.getD j 0 : Nat) : Int)) := by
  obtain ⟨A, c, rfl⟩ := Kd.R_slice h
  have hr := (Kd.R_reads' h).2.2
  refine ⟨A, c, by rw [toI_length], ?_⟩
  intro j hj
  obtain ⟨g, o, hA, hc⟩ := ints_atk hr (by rw [toI_length]; omega)
  refine ⟨g, o, hA, fun i hi => hc i _ ?_⟩
  unfold toI
  rw [List.getElem?_map, List.getElem?_eq_getElem hi, List.getD_eq_getElem?_getD, List.getElem?_eq_getElem hi]
  rfl
section
variable {w : World} {b q : Nat} {size : Int} {L : List Rw}
set_option maxRecDepth 100000 in
set_option maxHeartbeats 4000000 in
theorem rvictims_calls (S : Bk 88 89 w b q size L) (hO : Ok size L) (use : Int) :
    Calls Tryz.prog 55 #[.pointer (some ⟨b, 0, none⟩), .int .i64 use] w (RowPost w (toI (rvicR use L))) := by
  by_cases hu1 : use < 1
  · unfold rvicR
    rw [if_pos (.inl hu1)]
    go_enter Tryz.func55, Tryz.ntmps55
    go_wp2
    go_ret
    exact ⟨_, rfl, Kd.R_nil _ _ _ _ _, Below.refl _ _⟩
  by_cases hu2 : 3 < use
  · unfold rvicR
    rw [if_pos (.inr hu2)]
    go_enter Tryz.func55, Tryz.ntmps55
    go_wp2
    go_ret
    exact ⟨_, rfl, Kd.R_nil _ _ _ _ _, Below.refl _ _⟩
  have HV := Aside0.mk (show rvicR use L = rvK L (onR use L) (onR use L).length by unfold rvicR; rw [if_neg (fun h => h.elim hu1 hu2)])
  have HS := Aside0.mk S
  have HO := Aside0.mk hO
  have h256 := hO.len
  have HOf := Aside0.mk (show Calls Tryz.prog 53 #[.pointer (some ⟨b, 0, none⟩), .int .i64 use] w (RowPost w (toI (onR use L))) by
    have := rof_calls S hO.len use
    rw [onR_toI]
    unfold ofR
    rw [if_neg (by omega)]
    exact this)
  have hlen := onR_len use L
  have hlt := onR_lt use L
  obtain ⟨xs, hxs⟩ : ∃ xs, onR use L = xs := ⟨_, rfl⟩
  rw [hxs] at HOf HV hlen hlt
  have HLt := Aside0.mk hlt
  have HLn := Aside0.mk (rvK_len L xs)
  have HMm := Aside0.mk (rvK_mem L xs)
  obtain ⟨n, hn⟩ : ∃ n, xs.length = n := ⟨_, rfl⟩
  have hn256 : n ≤ 256 := by omega
  rw [hn] at HV hlen HMm
  have HN := Aside0.mk hn
  obtain ⟨M, hM⟩ : ∃ M, L.length = M := ⟨_, rfl⟩
  have HM := Aside0.mk hM
  clear S hO hxs hlt hn hlen h256 hM
  go_enter Tryz.func55, Tryz.ntmps55
  go_wp2_with (go_at_call 53; go_loud (with_reducible refine HOf.out.mono ?_); rintro e w3 ⟨v3, rfl, ho, hb⟩; have HB3 := Aside0.mk hb; obtain ⟨A, c, rfl, hc3⟩ := R_ints ho; have HC3 := Aside0.mk hc3; clear ho hb hc3; rw [HN.out])
  have HSW := Aside0.mk (HS.out.on HB3.out)
  clear HOf HS
  go_loopw [5, 7] (fun out i wr => ∃ (v : Value) (k : Nat), k ≤ n ∧ out = v ∧ i = .int .i64 k ∧ Aside0 (Kd.R (Kd.int .i64) 3 wr w3.heap.size (fun _ => True) v (toI (rvK L xs k))) ∧ Aside0 (Below w3.heap.size w3 wr)) (fun _ i _ => n - (intOf i).toNat)
  case atStart => exact ⟨_, 0, by omega, rfl, rfl, ⟨Kd.R_nil _ _ _ _ _⟩, ⟨Below.refl _ _⟩⟩
  case round =>
    obtain ⟨v, k, hk, rfl, rfl, HR, HW⟩ := hrel
    obtain ⟨c0, c1⟩ := (HSW.out.on HW.out).book
    rw [HM.out] at c1
    by_cases hlt : k < n
    · have hkl : k < xs.length := by rw [HN.out]; exact hlt
      have hsu := rvK.eq_2 L xs k
      have hxm : xs.getD k 0 ∈ xs := by rw [List.getD_eq_getElem?_getD, List.getElem?_eq_getElem hkl]; exact List.getElem_mem _
      have hxl := HLt.out _ hxm
      obtain ⟨g, o, rfl, hcs⟩ := HC3.out k hkl
      have hcx := cell_bel HW.out (hcs k hkl)
      obtain ⟨x, hxx⟩ : ∃ x, xs.getD k 0 = x := ⟨_, rfl⟩
      rw [hxx] at hsu hxl hcx
      have hbd : badR L x = ((L.getD x zRw).closed && !decide ((L.getD x zRw).used = (L.getD x zRw).live)) := rfl
      obtain ⟨r0, r1, r2, r3⟩ := (HSW.out.on HW.out).row (getD_some hxl)
      have hdx : dirtyOf L x = (L.getD x zRw).used - (L.getD x zRw).live := rfl
      have hr := HO.out.rows _ (getD_mem hxl)
      have hh := HO.out.hi
      obtain ⟨⟨u, a, l, cl⟩, hrow⟩ : ∃ r, L.getD x zRw = r := ⟨_, rfl⟩
      rw [hrow] at r0 r1 r2 r3 hbd hdx hr
      dsimp only at r0 r1 r2 r3 hbd hdx hr
      rw [HM.out] at hxl
      have HSu := Aside0.mk hsu
      have HBd := Aside0.mk hbd
      have HDx := Aside0.mk hdx
      have HRo := Aside0.mk hr
      have HHi := Aside0.mk hh
      have HCx := Aside0.mk hcx
      have j1 : (k : Int) < (n : Int) := by omega
      have j2 : (0 : Int) ≤ (k : Int) := by omega
      have i1 : (x : Int) < (M : Int) := by omega
      have i2 : (0 : Int) ≤ (x : Int) := by omega
      clear hsu hbd hxx hxm hkl hrow hdx hcs hr hh
      cases cl with
      | false =>
        go_wp2
        go_region_held3 (fun V => V.cell? ⟨b, 1, none⟩ = some (.slice (some ⟨q, 0, none⟩) M M) ∧ V.cell? ⟨g, o + k, none⟩ = some (.int .i64 (x : Int)) ∧ V.cell? ⟨q, x * 4, none⟩ = some (.int .i64 u) ∧ V.cell? ⟨q, x * 4 + 1, none⟩ = some (.int .i64 a) ∧ V.cell? ⟨q, x * 4 + 2, none⟩ = some (.int .i64 l) ∧ V.cell? ⟨q, x * 4 + 3, none⟩ = some (.bool false)) ((first | go_keep | assumption)) (fail)
        go_wp2
        go_roundw
        case rel => exact ⟨_, k + 1, by omega, rfl, by go_num, ⟨by rw [HSu.out, HBd.out, Bool.false_and, if_neg (by decide)]; exact Kd.R_alloc HR.out _⟩, ⟨bdr (below_alloc HW.out _)⟩⟩
        case measure => simp [intOf]; omega
      | true =>
        have HX0 := Aside0.mk (blk_new wr (.cells #[.int .i64 u, .int .i64 a, .int .i64 l, .bool true] 89))
        have y1 : ((wr.alloc (.cells #[.int .i64 u, .int .i64 a, .int .i64 l, .bool true] 89)).drew).cell? ⟨wr.heap.size, 1, none⟩ = some (.int .i64 a) := cell_blk HX0.out rfl
        have y2 : ((wr.alloc (.cells #[.int .i64 u, .int .i64 a, .int .i64 l, .bool true] 89)).drew).cell? ⟨wr.heap.size, 2, none⟩ = some (.int .i64 l) := cell_blk HX0.out rfl
        by_cases hal : a = l
        · have hal2 : (a == l) = true := by rw [hal]; exact beq_self_eq_true _
          have HAL := Aside0.mk hal
          clear hal
          go_wp2
          go_region_held3 (fun V => V.cell? ⟨b, 1, none⟩ = some (.slice (some ⟨q, 0, none⟩) M M) ∧ V.cell? ⟨g, o + k, none⟩ = some (.int .i64 (x : Int)) ∧ V.cell? ⟨q, x * 4, none⟩ = some (.int .i64 u) ∧ V.cell? ⟨q, x * 4 + 1, none⟩ = some (.int .i64 a) ∧ V.cell? ⟨q, x * 4 + 2, none⟩ = some (.int .i64 l) ∧ V.cell? ⟨q, x * 4 + 3, none⟩ = some (.bool true)) ((first | go_keep | assumption)) (fail)
          go_wp2
          go_roundw
          case rel => exact ⟨_, k + 1, by omega, rfl, by go_num, ⟨by rw [HSu.out, HBd.out, HAL.out, decide_eq_true rfl, Bool.not_true, Bool.and_false, if_neg (by decide)]; exact Kd.R_alloc HR.out _⟩, ⟨bdr (below_alloc HW.out _)⟩⟩
          case measure => simp [intOf]; omega
        · have hal2 : (a == l) = false := beq_eq_false_iff_ne.2 hal
          have HAL := Aside0.mk hal
          obtain ⟨A5, c5, rfl, hc5⟩ := R_ints HR.out
          have HC5 := Aside0.mk hc5
          obtain ⟨out, hout⟩ : ∃ out, rvK L xs k = out := ⟨_, rfl⟩
          have hmem := HMm.out k (by omega)
          have hlen := HLn.out k
          rw [hout] at HC5 HSu hmem hlen ⊢
          obtain ⟨m, hm⟩ : ∃ m, out.length = m := ⟨_, rfl⟩
          have HIl := Aside0.mk (insK_len L x out)
          have HIF := Aside0.mk (show insF L x out = if (insK L x out m).2 = true then (insK L x out m).1 else (insK L x out m).1 ++ [x] by rw [← hm]; rfl)
          rw [hm] at HC5 hlen ⊢
          have HM5 := Aside0.mk hm
          have HMem := Aside0.mk hmem
          have hWi : Below wr.heap.size wr ((wr.alloc (.cells #[.int .i64 u, .int .i64 a, .int .i64 l, .bool true] 89)).drew) := bdr (below_alloc (Below.refl _ wr) _)
          clear hal hc5 hout hm hmem
          go_wp2
          go_region_held3 (fun V => V.cell? ⟨b, 1, none⟩ = some (.slice (some ⟨q, 0, none⟩) M M) ∧ V.cell? ⟨g, o + k, none⟩ = some (.int .i64 (x : Int)) ∧ V.cell? ⟨q, x * 4, none⟩ = some (.int .i64 u) ∧ V.cell? ⟨q, x * 4 + 1, none⟩ = some (.int .i64 a) ∧ V.cell? ⟨q, x * 4 + 2, none⟩ = some (.int .i64 l) ∧ V.cell? ⟨q, x * 4 + 3, none⟩ = some (.bool true)) ((first | go_keep | assumption)) (fail)
          go_wp2
          obtain ⟨wi, hwi⟩ : ∃ wi, (wr.alloc (.cells #[.int .i64 u, .int .i64 a, .int .i64 l, .bool true] 89)).drew = wi := ⟨_, rfl⟩
          have HXi := Aside0.mk (show wi.heap[wr.heap.size]? = some (.cells #[.int .i64 u, .int .i64 a, .int .i64 l, .bool true] 89 (0, 0)) by rw [← hwi]; exact HX0.out)
          rw [hwi] at hWi ⊢
          have HWi := Aside0.mk hWi
          clear hwi hWi c1 r0 r1 r2 r3 hcx y1 y2 hal2 c0
          go_loopw [9, 10, 11] (fun nx dn jv wz => ∃ (vn : Value) (db : Bool) (j : Nat) (wq : World), wq = wz ∧ j ≤ m ∧ nx = vn ∧ dn = .bool db ∧ jv = .int .i64 j ∧ Aside0 ((insK L x out j).2 = db) ∧ Aside0 (Kd.R (Kd.int .i64) 3 wq wi.heap.size (fun _ => True) vn (toI (insK L x out j).1)) ∧ Aside0 (Below wi.heap.size wi wq)) (fun _ _ jv _ => m - (intOf jv).toNat)
          case atStart => exact ⟨_, false, 0, _, rfl, by omega, rfl, rfl, rfl, ⟨rfl⟩, ⟨Kd.R_nil _ _ _ _ _⟩, ⟨Below.refl _ _⟩⟩
          case round =>
            obtain ⟨vn, db, j, wq, rfl, hj, rfl, rfl, rfl, HDb, HRn, HWq⟩ := hrel
            have HWr := Aside0.mk (btr HWi.out HWq.out)
            have HW3q := Aside0.mk (btr HW.out HWr.out)
            by_cases hjm : j < m
            · have hjl : j < out.length := by rw [HM5.out]; exact hjm
              have hins := insK.eq_2 L x out j
              have hym : out.getD j 0 ∈ out := by rw [List.getD_eq_getElem?_getD, List.getElem?_eq_getElem hjl]; exact List.getElem_mem _
              have hyl := HLt.out _ (HMem.out _ hym)
              obtain ⟨g5, o5, rfl, hcs5⟩ := HC5.out j hjm
              have hcy := cell_bel HWr.out (hcs5 j hjm)
              have HCyB := Aside0.mk (show ∀ W', Below wi.heap.size wi W' → W'.cell? ⟨g5, o5 + j, none⟩ = some (.int .i64 ((out.getD j 0 : Nat) : Int)) from fun W' h => cell_bel (btr HWi.out h) (hcs5 j hjm))
              obtain ⟨y, hyy⟩ : ∃ y, out.getD j 0 = y := ⟨_, rfl⟩
              rw [hyy] at hins hyl hcy HCyB
              obtain ⟨e0, e1⟩ := (HSW.out.on HW3q.out).book
              obtain ⟨t0, t1, t2, t3⟩ := (HSW.out.on HW3q.out).row (getD_some hyl)
              have hdy : dirtyOf L y = (L.getD y zRw).used - (L.getD y zRw).live := rfl
              have hry := HO.out.rows _ (getD_mem hyl)
              have hhi := HHi.out
              have hrx := HRo.out
              obtain ⟨⟨u2, a2, l2, c2⟩, hrowy⟩ : ∃ r, L.getD y zRw = r := ⟨_, rfl⟩
              rw [hrowy] at t0 t1 t2 t3 hdy hry
              dsimp only at t0 t1 t2 t3 hdy hry
              rw [HM.out] at e1 hyl
              have p1 : ((wq.alloc (.cells #[.int .i64 u2, .int .i64 a2, .int .i64 l2, .bool c2] 89)).drew).cell? ⟨wr.heap.size, 1, none⟩ = some (.int .i64 a) := cell_blk (blk_alloc (blk_below HXi.out HWq.out) _) rfl
              have p2 : ((wq.alloc (.cells #[.int .i64 u2, .int .i64 a2, .int .i64 l2, .bool c2] 89)).drew).cell? ⟨wr.heap.size, 2, none⟩ = some (.int .i64 l) := cell_blk (blk_alloc (blk_below HXi.out HWq.out) _) rfl
              have p3 : ((wq.alloc (.cells #[.int .i64 u2, .int .i64 a2, .int .i64 l2, .bool c2] 89)).drew).cell? ⟨wq.heap.size, 1, none⟩ = some (.int .i64 a2) := cell_blk (blk_new _ _) rfl
              have p4 : ((wq.alloc (.cells #[.int .i64 u2, .int .i64 a2, .int .i64 l2, .bool c2] 89)).drew).cell? ⟨wq.heap.size, 2, none⟩ = some (.int .i64 l2) := cell_blk (blk_new _ _) rfl
              have p5 : ((wq.alloc (.cells #[.int .i64 u2, .int .i64 a2, .int .i64 l2, .bool c2] 89)).drew).cell? ⟨g, o + k, none⟩ = some (.int .i64 (x : Int)) := cell_bel (bdr (below_alloc (Below.refl _ _) _)) (cell_bel HWr.out HCx.out)
              have p6 : ((wq.alloc (.cells #[.int .i64 u2, .int .i64 a2, .int .i64 l2, .bool c2] 89)).drew).cell? ⟨g5, o5 + j, none⟩ = some (.int .i64 (y : Int)) := cell_bel (bdr (below_alloc (Below.refl _ _) _)) hcy
              have HRw := Aside0.mk (show Kd.R (Kd.int .i64) 3 ((wq.alloc (.cells #[.int .i64 u2, .int .i64 a2, .int .i64 l2, .bool c2] 89)).drew) wi.heap.size (fun _ => True) _ (toI (insK L x out j).1) from Kd.R_alloc HRn.out _)
              have HWw := Aside0.mk (show Below wi.heap.size wi ((wq.alloc (.cells #[.int .i64 u2, .int .i64 a2, .int .i64 l2, .bool c2] 89)).drew) from bdr (below_alloc HWq.out _))
              have hil := HIl.out j
              rw [HDb.out] at hins hil
              have HIl1 := Aside0.mk (show (toI (insK L x out j).1).length ≤ 300 by rw [toI_length, hil]; split <;> omega)
              have HIl2 := Aside0.mk (show (toI (insK L x out j).1 ++ [(x : Int)]).length ≤ 301 by rw [List.length_append, List.length_singleton, toI_length, hil]; split <;> omega)
              have HIns := Aside0.mk hins
              have HDy := Aside0.mk hdy
              have w1 : wrap64 (a - l) = a - l := by unfold wrap64; omega
              have HW2 := Aside0.mk (show wrap64 (a2 - l2) = a2 - l2 by unfold wrap64; omega)
              have w2 := HW2.out
              have k1 : (j : Int) < (m : Int) := by omega
              have k2 : (0 : Int) ≤ (j : Int) := by omega
              have k3 : (y : Int) < (M : Int) := by omega
              have k4 : (0 : Int) ≤ (y : Int) := by omega
              clear hins hyy hym hjl hrowy hdy hcs5 hry hhi hrx hil
              cases db with
              | true =>
                clear p1 p2 p3 p4 p5 w1 w2
                go_wp2
                go_region_held3 (fun V => V.cell? ⟨b, 1, none⟩ = some (.slice (some ⟨q, 0, none⟩) M M) ∧ V.cell? ⟨g5, o5 + j, none⟩ = some (.int .i64 (y : Int)) ∧ V.cell? ⟨q, y * 4, none⟩ = some (.int .i64 u2) ∧ V.cell? ⟨q, y * 4 + 1, none⟩ = some (.int .i64 a2) ∧ V.cell? ⟨q, y * 4 + 2, none⟩ = some (.int .i64 l2) ∧ V.cell? ⟨q, y * 4 + 3, none⟩ = some (.bool c2)) ((first | go_keep | assumption)) (fail)
                obtain ⟨ww, hww⟩ : ∃ ww, (wq.alloc (.cells #[.int .i64 u2, .int .i64 a2, .int .i64 l2, .bool c2] 89)).drew = ww := ⟨_, rfl⟩
                rw [hww] at p6 HRw HWw ⊢
                clear hww e0 e1 t0 t1 t2 t3 hcy
                go_wp2_with ((with_reducible refine gate_builtin (b := .append) (xs := #[.tmp 86, .tmp 91]) rfl ?_); at_builtin; go_loud (refine Kd.R_append (Kd.int .i64) (w0 := wi) wi.heap.size rfl (.tmp 86) (.tmp 91) 33 3 (.int .i64 0) 8 rfl Tryz.underlying33 Q.info3 rfl (by decide) (by omega) _ (toI (insK L x out j).1) (y : Int) [.int .i64 y] (fun _ => True) (fun _ => False) rfl ?aX ?aP (fun _ hk => hk.elim) (fun _ _ => trivial) HRw.out HWw.out HWw.out.size ?aL ?_); go_loud (case aP => exact rfl); go_loud (case aX => first | rfl | (rw [World.size_alloc]; rfl)); go_loud (case aL => have := HIl1.out; omega); intro vy wy ho hb hg hat; have HRy := Aside0.mk ho; have HWy := Aside0.mk hb; clear ho hb hg hat)
                go_roundw
                case rel => exact ⟨_, true, j + 1, _, by first | rfl | trivial, by omega, rfl, rfl, by go_num, ⟨by rw [HIns.out]; simp⟩, ⟨by rw [HIns.out]; simp only [Bool.not_true, Bool.false_and, if_neg Bool.false_ne_true, toI_append]; exact HRy.out⟩, HWy⟩
                case measure => simp [intOf]; omega
              | false =>
                by_cases hgt : a2 - l2 < a - l
                · have HGt := Aside0.mk (show decide (dirtyOf L x > dirtyOf L y) = true by rw [HDx.out, HDy.out]; exact decide_eq_true hgt)
                  go_wp2
                  go_region_held3 (fun V => V.cell? ⟨b, 1, none⟩ = some (.slice (some ⟨q, 0, none⟩) M M) ∧ V.cell? ⟨g5, o5 + j, none⟩ = some (.int .i64 (y : Int)) ∧ V.cell? ⟨q, y * 4, none⟩ = some (.int .i64 u2) ∧ V.cell? ⟨q, y * 4 + 1, none⟩ = some (.int .i64 a2) ∧ V.cell? ⟨q, y * 4 + 2, none⟩ = some (.int .i64 l2) ∧ V.cell? ⟨q, y * 4 + 3, none⟩ = some (.bool c2)) ((first | go_keep | assumption)) (fail)
                  obtain ⟨ww, hww⟩ : ∃ ww, (wq.alloc (.cells #[.int .i64 u2, .int .i64 a2, .int .i64 l2, .bool c2] 89)).drew = ww := ⟨_, rfl⟩
                  rw [hww] at p1 p2 p3 p4 p5 p6 HRw HWw ⊢
                  clear hww e0 e1 t0 t1 t2 t3 hcy
                  go_wp2_with (first | ((with_reducible refine gate_builtin (b := .append) (xs := #[.tmp 79, .tmp 84]) rfl ?_); at_builtin; go_loud (refine Kd.R_append (Kd.int .i64) (w0 := wi) wi.heap.size rfl (.tmp 79) (.tmp 84) 33 3 (.int .i64 0) 8 rfl Tryz.underlying33 Q.info3 rfl (by decide) (by omega) _ (toI (insK L x out j).1) (x : Int) [.int .i64 x] (fun _ => True) (fun _ => False) rfl ?aX ?aP (fun _ hk => hk.elim) (fun _ _ => trivial) HRw.out HWw.out HWw.out.size ?aL ?_); go_loud (case aP => exact rfl); go_loud (case aX => first | rfl | (rw [World.size_alloc]; rfl)); go_loud (case aL => have := HIl1.out; omega); intro vx wx ho hb hg hat; have HRx := Aside0.mk ho; have HWx := Aside0.mk hb; have hy2 := HCyB.out _ hb; clear ho hb hg hat) | ((with_reducible refine gate_builtin (b := .append) (xs := #[.tmp 86, .tmp 91]) rfl ?_); at_builtin; go_loud (refine Kd.R_append (Kd.int .i64) (w0 := wi) wi.heap.size rfl (.tmp 86) (.tmp 91) 33 3 (.int .i64 0) 8 rfl Tryz.underlying33 Q.info3 rfl (by decide) (by omega) _ (toI (insK L x out j).1 ++ [(x : Int)]) (y : Int) [.int .i64 y] (fun _ => True) (fun _ => False) rfl ?aX ?aP (fun _ hk => hk.elim) (fun _ _ => trivial) HRx.out HWx.out HWx.out.size ?aL ?_); go_loud (case aP => exact rfl); go_loud (case aX => first | rfl | (rw [World.size_alloc]; rfl)); go_loud (case aL => have := HIl2.out; omega); intro vy wy ho hb hg hat; have HRy := Aside0.mk ho; have HWy := Aside0.mk hb; clear ho hb hg hat))
                  go_roundw
                  case rel => exact ⟨_, true, j + 1, _, by first | rfl | trivial, by omega, rfl, rfl, by go_num, ⟨by rw [HIns.out, HGt.out]; rfl⟩, ⟨by rw [HIns.out, HGt.out]; simp only [Bool.not_false, Bool.true_and, if_true, toI_append]; exact HRy.out⟩, HWy⟩
                  case measure => simp [intOf]; omega
                · have HGt := Aside0.mk (show decide (dirtyOf L x > dirtyOf L y) = false by rw [HDx.out, HDy.out]; exact decide_eq_false hgt)
                  go_wp2
                  go_region_held3 (fun V => V.cell? ⟨b, 1, none⟩ = some (.slice (some ⟨q, 0, none⟩) M M) ∧ V.cell? ⟨g5, o5 + j, none⟩ = some (.int .i64 (y : Int)) ∧ V.cell? ⟨q, y * 4, none⟩ = some (.int .i64 u2) ∧ V.cell? ⟨q, y * 4 + 1, none⟩ = some (.int .i64 a2) ∧ V.cell? ⟨q, y * 4 + 2, none⟩ = some (.int .i64 l2) ∧ V.cell? ⟨q, y * 4 + 3, none⟩ = some (.bool c2)) ((first | go_keep | assumption)) (fail)
                  obtain ⟨ww, hww⟩ : ∃ ww, (wq.alloc (.cells #[.int .i64 u2, .int .i64 a2, .int .i64 l2, .bool c2] 89)).drew = ww := ⟨_, rfl⟩
                  rw [hww] at p1 p2 p3 p4 p5 p6 HRw HWw ⊢
                  clear hww e0 e1 t0 t1 t2 t3 hcy
                  go_wp2_with ((with_reducible refine gate_builtin (b := .append) (xs := #[.tmp 86, .tmp 91]) rfl ?_); at_builtin; go_loud (refine Kd.R_append (Kd.int .i64) (w0 := wi) wi.heap.size rfl (.tmp 86) (.tmp 91) 33 3 (.int .i64 0) 8 rfl Tryz.underlying33 Q.info3 rfl (by decide) (by omega) _ (toI (insK L x out j).1) (y : Int) [.int .i64 y] (fun _ => True) (fun _ => False) rfl ?aX ?aP (fun _ hk => hk.elim) (fun _ _ => trivial) HRw.out HWw.out HWw.out.size ?aL ?_); go_loud (case aP => exact rfl); go_loud (case aX => first | rfl | (rw [World.size_alloc]; rfl)); go_loud (case aL => have := HIl1.out; omega); intro vy wy ho hb hg hat; have HRy := Aside0.mk ho; have HWy := Aside0.mk hb; clear ho hb hg hat)
                  go_roundw
                  case rel => exact ⟨_, false, j + 1, _, by first | rfl | trivial, by omega, rfl, rfl, by go_num, ⟨by rw [HIns.out, HGt.out]; rfl⟩, ⟨by rw [HIns.out, HGt.out]; simp only [Bool.not_false, Bool.true_and, if_neg Bool.false_ne_true, toI_append]; exact HRy.out⟩, HWy⟩
                  case measure => simp [intOf]; omega
            · obtain rfl : j = m := by omega
              have k1 : ¬ (j : Int) < (j : Int) := by omega
              have hil := HIl.out j
              rw [HDb.out] at hil
              have HIl1 := Aside0.mk (show (toI (insK L x out j).1).length ≤ 300 by rw [toI_length, hil]; split <;> omega)
              have hcx := cell_bel HWr.out HCx.out
              have HFin := HIF.out
              rw [HDb.out] at HFin
              have HFin := Aside0.mk HFin
              have hle := Nat.le_trans HW.out.size HWi.out.size
              have HLe := Aside0.mk hle
              clear hil hle
              cases db with
              | true =>
                go_wp2
                go_roundw
                case rel => exact ⟨_, k + 1, by omega, rfl, by go_num, ⟨by rw [HSu.out, HBd.out, decide_eq_false HAL.out]; simp only [Bool.not_false, Bool.and_self, if_true]; rw [HFin.out, if_pos rfl]; exact Kd.R_lower HRn.out HLe.out⟩, HW3q⟩
                case measure => simp [intOf]; omega
              | false =>
                go_wp2_with ((with_reducible refine gate_builtin (b := .append) (xs := #[.tmp 95, .tmp 100]) rfl ?_); at_builtin; go_loud (refine Kd.R_append (Kd.int .i64) (w0 := wi) wi.heap.size rfl (.tmp 95) (.tmp 100) 33 3 (.int .i64 0) 8 rfl Tryz.underlying33 Q.info3 rfl (by decide) (by omega) _ (toI (insK L x out j).1) (x : Int) [.int .i64 x] (fun _ => True) (fun _ => False) rfl ?aX ?aP (fun _ hk => hk.elim) (fun _ _ => trivial) HRn.out HWq.out HWq.out.size ?aL ?_); go_loud (case aP => exact rfl); go_loud (case aX => first | rfl | (rw [World.size_alloc]; rfl)); go_loud (case aL => have := HIl1.out; omega); intro vz wz ho hb hg hat; have HRz := Aside0.mk ho; have HWz := Aside0.mk hb; clear ho hb hg hat)
                go_roundw
                case rel => exact ⟨_, k + 1, by omega, rfl, by go_num, ⟨by rw [HSu.out, HBd.out, decide_eq_false HAL.out]; simp only [Bool.not_false, Bool.and_self, if_true]; rw [HFin.out, if_neg Bool.false_ne_true, toI_append]; exact Kd.R_lower HRz.out HLe.out⟩, ⟨btr HW.out (btr HWi.out HWz.out)⟩⟩
                case measure => simp [intOf]; omega
    · obtain rfl : k = n := by omega
      have j1 : ¬ (k : Int) < (k : Int) := by omega
      go_wp2
      go_ret
      rw [HV.out]
      exact ⟨_, rfl, Kd.R_lower HR.out HB3.out.size, btr HB3.out HW.out⟩
end
end Go.Proofs.YtlpnggaeepjjfaaGreatDoor.Bo
