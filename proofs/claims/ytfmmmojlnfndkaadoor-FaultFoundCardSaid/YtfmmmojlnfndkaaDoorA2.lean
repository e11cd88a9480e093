/- Plain: FaultFirsts, FaultFound, FaultNames. No condition. -/
import Derived.Test.YtfmmmojlnfndkaaDoorA1
import Derived.Lib.Strings
namespace Go.Proofs.YtfmmmojlnfndkaaDoor.Q
open Go.RowKit Go.Proofs.YtfmmmojlnfndkaaDoorW.PrintWords Go.Proofs.YtfmmmojlnfndkaaDoorW.PrintLast
theorem first_both (l : List Int) (hl : l.length ≤ 4611686018427387904) : ∀ (d k i : Nat), l.length - i = d → i ≤ l.length → d + 1 ≤ k → ∃ r, fault_First.l0 k l (l.length : Int) (i : Int) = some r ∧ pumiceref04_First.l0 k l (i : Int) = some r := by
  intro d
  induction d with
  | zero =>
    intro k i h0 h1 h2
    obtain ⟨j, rfl⟩ : ∃ j, k = j + 1 := ⟨k - 1, by omega⟩
    refine ⟨(-1, 0), ?_, ?_⟩
    · rw [fault_First.l0, if_neg (by omega)]
    · rw [pumiceref04_First.l0, if_neg (by omega)]
  | succ d ih =>
    intro k i h0 h1 h2
    obtain ⟨j, rfl⟩ : ∃ j, k = j + 1 := ⟨k - 1, by omega⟩
    have hw : wrap64 ((i : Int) + 1) = ((i + 1 : Nat) : Int) := by rw [w64 _ (by omega)]; omega
    obtain ⟨r, hr1, hr2⟩ := ih j (i + 1) (by omega) (by omega) (by omega)
    have e1 : fault_First.l0 (j + 1) l (l.length : Int) (i : Int) = if rd l (i : Int) = 0 then fault_First.l0 j l (l.length : Int) ((i + 1 : Nat) : Int) else some ((i : Int), rd l (i : Int)) := by rw [fault_First.l0, if_pos (by omega), if_pos (by omega), if_pos (by omega), hw]
    have e2 : pumiceref04_First.l0 (j + 1) l (i : Int) = if rd l (i : Int) = 0 then pumiceref04_First.l0 j l ((i + 1 : Nat) : Int) else some ((i : Int), rd l (i : Int)) := by rw [pumiceref04_First.l0, if_pos (by omega), if_pos (by omega), hw]
    rw [e1, e2]
    by_cases hz : rd l (i : Int) = 0
    · rw [if_pos hz, if_pos hz]; exact ⟨r, hr1, hr2⟩
    · rw [if_neg hz, if_neg hz]; exact ⟨_, rfl, rfl⟩
theorem faultFirsts_plain (a b : Int) (l : List Int) (hl : l.length ≤ 4611686018427387904) : pumicelaw04_FaultFirsts.f (l.length + 8) a b l = some true := by
  obtain ⟨r, h1, h2⟩ := first_both l hl l.length (l.length + 8) 0 (by omega) (by omega) (by omega)
  have e1 : fault_First.f (l.length + 8) l = some r := h1
  have e2 : pumiceref04_First.f (l.length + 8) l = some r := h2
  unfold pumicelaw04_FaultFirsts.f
  rw [e1, e2, worse_f _ (by omega), rworse_f _ (by omega)]
  simp [alive.f]
/-! ### names -/
def L66 : List S66 := (fault_all.f).getD []
theorem all_f : fault_all.f = some L66 := rfl
theorem L66_known : L66.map (·.f0) = known := by kernel_rfl
theorem L66_len : L66.length = 23 := by kernel_rfl
theorem rd_mem (xs : List S66) (i : Nat) (h : i < xs.length) : rd_T66 xs (i : Int) ∈ xs := by
  unfold rd_T66
  rw [List.getD_eq_getElem?_getD, show ((i : Int)).toNat = i by omega, List.getElem?_eq_getElem h]
  exact List.getElem_mem h
def nameTail (a : Int) : Option ByteArray := (strconv_Itoa.f a).bind fun t => (if 1 + t.size ≤ 9223372036854775807 then (some ((⟨#[69]⟩ : ByteArray) ++ t)) else none)
theorem name_none (a : Int) (xs : List S66) (hx : ∀ x ∈ xs, x.f0 ≠ a) (hl : xs.length ≤ 1000) : ∀ (d k i : Nat), xs.length - i = d → i ≤ xs.length → d + 1 ≤ k → fault_Name.l0 k a xs (xs.length : Int) (i : Int) = nameTail a := by
  intro d
  induction d with
  | zero =>
    intro k i h0 h1 h2
    obtain ⟨j, rfl⟩ : ∃ j, k = j + 1 := ⟨k - 1, by omega⟩
    rw [fault_Name.l0, if_neg (by omega)]; rfl
  | succ d ih =>
    intro k i h0 h1 h2
    obtain ⟨j, rfl⟩ : ∃ j, k = j + 1 := ⟨k - 1, by omega⟩
    have hw : wrap64 ((i : Int) + 1) = ((i + 1 : Nat) : Int) := by rw [w64 _ (by omega)]; omega
    rw [fault_Name.l0, if_pos (by omega), if_pos (by omega), if_pos (by omega), if_neg (hx _ (rd_mem xs i (by omega))), hw]
    exact ih j (i + 1) (by omega) (by omega) (by omega)
theorem find_none (s : ByteArray) (xs : List S66) (hx : ∀ x ∈ xs, x.f1.toList ≠ s.toList) (hl : xs.length ≤ 1000) : ∀ (d k i : Nat), xs.length - i = d → i ≤ xs.length → d + 1 ≤ k → fault_Find.l0 k s xs (xs.length : Int) (i : Int) = some (0, false) := by
  intro d
  induction d with
  | zero =>
    intro k i h0 h1 h2
    obtain ⟨j, rfl⟩ : ∃ j, k = j + 1 := ⟨k - 1, by omega⟩
    rw [fault_Find.l0, if_neg (by omega)]
  | succ d ih =>
    intro k i h0 h1 h2
    obtain ⟨j, rfl⟩ : ∃ j, k = j + 1 := ⟨k - 1, by omega⟩
    have hw : wrap64 ((i : Int) + 1) = ((i + 1 : Nat) : Int) := by rw [w64 _ (by omega)]; omega
    rw [fault_Find.l0, if_pos (by omega), if_pos (by omega), if_pos (by omega), if_neg (hx _ (rd_mem xs i (by omega))), hw]
    exact ih j (i + 1) (by omega) (by omega) (by omega)
/-! ### digits -/
theorem digits_all (u : Nat) : ∀ b ∈ Lib.decDigits u, 48 ≤ b.toNat ∧ b.toNat ≤ 57 := by
  induction u using Nat.strongRecOn with
  | _ u ih =>
    intro b hb
    rw [Lib.decDigits] at hb
    split at hb
    · rename_i h
      simp only [List.mem_singleton] at hb
      subst hb
      rw [UInt8.toNat_ofNat']; omega
    · rename_i h
      rcases List.mem_append.1 hb with hb | hb
      · exact ih (u / 10) (by omega) b hb
      · simp only [List.mem_singleton] at hb
        subst hb
        rw [UInt8.toNat_ofNat']; omega
def dval (l : List UInt8) : Nat := l.foldl (fun n b => n * 10 + (b.toNat - 48)) 0
theorem dval_digits (u : Nat) : dval (Lib.decDigits u) = u := by
  induction u using Nat.strongRecOn with
  | _ u ih =>
    rw [Lib.decDigits]
    split
    · rename_i h
      simp only [dval, List.foldl_cons, List.foldl_nil]
      rw [UInt8.toNat_ofNat']; omega
    · rename_i h
      have h2 := ih (u / 10) (by omega)
      unfold dval at h2 ⊢
      rw [List.foldl_append, h2]
      simp only [List.foldl_cons, List.foldl_nil]
      rw [UInt8.toNat_ofNat']; omega
theorem digits_cons (u : Nat) : ∃ b l, Lib.decDigits u = b :: l ∧ 48 ≤ b.toNat ∧ b.toNat ≤ 57 := by
  cases h : Lib.decDigits u with
  | nil =>
    rw [Lib.decDigits] at h
    split at h
    · cases h
    · simp at h
  | cons b l => exact ⟨b, l, rfl, digits_all u b (by rw [h]; exact List.mem_cons_self)⟩
theorem itoa_inj {a b : Int} (h : Lib.itoa a = Lib.itoa b) : a = b := by
  unfold Lib.itoa at h
  obtain ⟨x, l, hx, hx1, _⟩ := digits_cons a.toNat
  obtain ⟨y, m, hy, hy1, _⟩ := digits_cons b.toNat
  split at h <;> split at h
  · have h2 := congrArg dval (List.cons.inj h).2
    rw [dval_digits, dval_digits] at h2; omega
  · rw [hy] at h
    have := (List.cons.inj h).1
    rw [← this] at hy1
    exact absurd hy1 (by decide)
  · rw [hx] at h
    have := (List.cons.inj h).1
    rw [this] at hx1
    exact absurd hx1 (by decide)
  · have h2 := congrArg dval h
    rw [dval_digits, dval_digits] at h2; omega
/-- Does a text look like 'E' and a number? -/
def badName : List UInt8 → Bool
  | 69 :: c :: _ => c == 45 || (decide (48 ≤ c.toNat) && decide (c.toNat ≤ 57))
  | _ => false
theorem bad_itoa (a : Int) : badName (69 :: Lib.itoa a) = true := by
  unfold Lib.itoa
  split
  · rfl
  · obtain ⟨x, l, hx, h1, h2⟩ := digits_cons a.toNat
    rw [hx]
    simp [badName, h1, h2]
theorem L66_good : (L66.all fun x => !badName x.f1.data.toList) = true := by kernel_rfl
def chk (a : Int) : Bool := match fault_Name.f 40 a with
  | none => false
  | some s => (match fault_Find.f 40 s with | some (x, b) => x == a && b | none => false) && !badName s.data.toList
theorem chk_all : known.all chk = true := by kernel_rfl
theorem known_ok {a : Int} (h : a ∈ known) : ∃ s, fault_Name.f 40 a = some s ∧ fault_Find.f 40 s = some (a, true) ∧ badName s.data.toList = false := by
  have hc := List.all_eq_true.1 chk_all a h
  unfold chk at hc
  cases hn : fault_Name.f 40 a with
  | none => rw [hn] at hc; cases hc
  | some s =>
    rw [hn] at hc
    cases hf : fault_Find.f 40 s with
    | none => simp [hf] at hc
    | some r =>
      obtain ⟨x, b⟩ := r
      simp [hf] at hc
      exact ⟨s, rfl, by rw [hf, hc.1.1, hc.1.2], hc.2⟩
def etxt (a : Int) : ByteArray := (⟨#[69]⟩ : ByteArray) ++ ⟨(Lib.itoa a).toArray⟩
theorem etxt_list (a : Int) : (etxt a).data.toList = 69 :: Lib.itoa a := by
  unfold etxt
  rw [ByteArray.data_append, Array.toList_append]
  rfl
theorem itoa_len (a : Int) (h0 : -9223372036854775808 ≤ a) (h1 : a ≤ 9223372036854775807) : (Lib.itoa a).length ≤ 1000 := by
  have hg : ∀ (k u : Nat), u < 10 ^ (k + 1) → (Lib.decDigits u).length ≤ k + 1 := by
    intro k
    induction k with
    | zero => intro u hu; rw [Lib.decDigits, dif_pos (by omega)]; exact Nat.le_refl _
    | succ k ih =>
      intro u hu
      rw [Lib.decDigits]
      split
      · simp
      · rw [List.length_append]
        have := ih (u / 10) (by rw [Nat.pow_succ] at hu; omega)
        simp only [List.length_singleton]; omega
  unfold Lib.itoa
  split
  · have := hg 19 a.natAbs (by omega)
    simp only [List.length_cons]; omega
  · have := hg 19 a.toNat (by omega)
    omega
theorem nameTail_some (a : Int) (h0 : -9223372036854775808 ≤ a) (h1 : a ≤ 9223372036854775807) : nameTail a = some (etxt a) := by
  unfold nameTail strconv_Itoa.f
  rw [if_pos ⟨h0, h1⟩, Option.bind_some, if_pos]
  · rfl
  · have := itoa_len a h0 h1
    show 1 + (Lib.itoa a).toArray.size ≤ _
    rw [List.size_toArray]; omega
theorem unknown_ok {a : Int} (h : a ∉ known) (h0 : -9223372036854775808 ≤ a) (h1 : a ≤ 9223372036854775807) : fault_Name.f 40 a = some (etxt a) ∧ fault_Find.f 40 (etxt a) = some (0, false) := by
  refine ⟨?_, ?_⟩
  · unfold fault_Name.f
    rw [all_f, Option.bind_some]
    have hx : ∀ x ∈ L66, x.f0 ≠ a := fun x hx e => h (by rw [← L66_known, ← e]; exact List.mem_map_of_mem hx)
    rw [← nameTail_some a h0 h1]
    exact name_none a L66 hx (by rw [L66_len]; omega) 23 40 0 (by rw [L66_len]) (by omega) (by omega)
  · unfold fault_Find.f
    rw [all_f, Option.bind_some]
    refine find_none (etxt a) L66 (fun x hx e => ?_) (by rw [L66_len]; omega) 23 40 0 (by rw [L66_len]) (by omega) (by omega)
    have hg := List.all_eq_true.1 L66_good x hx
    rw [Lib.toList_data, Lib.toList_data, etxt_list] at e
    rw [e, bad_itoa] at hg
    cases hg
theorem cls_zero (a : Int) : ((cls a == 0) == (a == 0)) = true := by
  unfold cls
  by_cases h : a = 0
  · rw [if_pos h, h]; rfl
  · rw [if_neg h]
    have h2 : (a == 0) = false := by simpa using h
    rw [h2]
    repeat' split
    all_goals rfl
theorem cls_known {a : Int} (h : a ∈ known) : cls a < 6 := by
  have hc : (known.all fun a => decide (cls a < 6)) = true := by kernel_rfl
  simpa using List.all_eq_true.1 hc a h
theorem cls_unknown {a : Int} (h : a ∉ known) : cls a = 6 := by
  simp only [known, List.mem_cons, List.not_mem_nil, or_false, not_or] at h
  simp [cls, h]
theorem ba_of_list {s t : ByteArray} (h : s.data.toList = t.data.toList) : s = t := by
  cases s; cases t; simp only [ByteArray.mk.injEq]; exact Array.toList_inj.1 h
theorem name_inj {a b : Int} (ha0 : -9223372036854775808 ≤ a) (ha1 : a ≤ 9223372036854775807) (hb0 : -9223372036854775808 ≤ b) (hb1 : b ≤ 9223372036854775807) {s t : ByteArray} (hs : fault_Name.f 40 a = some s) (ht : fault_Name.f 40 b = some t) (h : s.toList = t.toList) : a = b := by
  rw [Lib.toList_data, Lib.toList_data] at h
  have e := ba_of_list h
  subst e
  by_cases ka : a ∈ known
  · obtain ⟨s1, h1, h2, h3⟩ := known_ok ka
    obtain rfl := Option.some.inj (hs.symm.trans h1)
    by_cases kb : b ∈ known
    · obtain ⟨s2, h4, h5, h6⟩ := known_ok kb
      obtain rfl := Option.some.inj (ht.symm.trans h4)
      have := Option.some.inj (h2.symm.trans h5)
      exact (Prod.mk.inj this).1
    · obtain rfl := Option.some.inj (ht.symm.trans (unknown_ok kb hb0 hb1).1)
      rw [etxt_list, bad_itoa] at h3; cases h3
  · obtain rfl := Option.some.inj (hs.symm.trans (unknown_ok ka ha0 ha1).1)
    by_cases kb : b ∈ known
    · obtain ⟨s2, h4, h5, h6⟩ := known_ok kb
      obtain rfl := Option.some.inj (ht.symm.trans h4)
      rw [etxt_list, bad_itoa] at h6; cases h6
    · have e2 := Option.some.inj (ht.symm.trans (unknown_ok kb hb0 hb1).1)
      have e3 := congrArg (fun x : ByteArray => x.data.toList) e2
      simp only [etxt_list] at e3
      exact itoa_inj (List.cons.inj e3).2
theorem name_some {a : Int} (h0 : -9223372036854775808 ≤ a) (h1 : a ≤ 9223372036854775807) : ∃ s, fault_Name.f 40 a = some s := by
  by_cases ka : a ∈ known
  · obtain ⟨s, h, _⟩ := known_ok ka; exact ⟨s, h⟩
  · exact ⟨_, (unknown_ok ka h0 h1).1⟩
theorem found_j0 (a : Int) (is : Bool) (h : is = true ↔ a ∈ known) : pumicelaw04_FaultFound.j0 40 a is false = some true := by
  unfold pumicelaw04_FaultFound.j0
  simp only [class_f 39 (by omega), Option.bind_some, alive.f]
  rw [if_neg (by decide), if_pos (cls_zero a)]
  cases is with
  | true => rw [if_pos rfl, if_pos (cls_known (h.1 rfl))]
  | false => rw [if_neg (by decide), if_pos (cls_unknown (fun hk => by cases h.2 hk))]
theorem faultFound_plain (a b : Int) (ha0 : -9223372036854775808 ≤ a) (ha1 : a ≤ 9223372036854775807) (hb0 : -9223372036854775808 ≤ b) (hb1 : b ≤ 9223372036854775807) : pumicelaw04_FaultFound.f 40 a b = some true := by
  obtain ⟨t, ht⟩ := name_some hb0 hb1
  unfold pumicelaw04_FaultFound.f
  by_cases ka : a ∈ known
  · obtain ⟨s, h1, h2, h3⟩ := known_ok ka
    simp only [h1, ht, h2, Option.bind_some]
    rw [if_pos trivial, if_pos trivial]
    by_cases hst : s.toList = t.toList
    · rw [if_pos hst]
      obtain rfl := name_inj ha0 ha1 hb0 hb1 h1 ht hst
      rw [show (a != a) = false by simp]
      exact found_j0 a true ⟨fun _ => ka, fun _ => rfl⟩
    · rw [if_neg hst]
      exact found_j0 a true ⟨fun _ => ka, fun _ => rfl⟩
  · obtain ⟨h1, h2⟩ := unknown_ok ka ha0 ha1
    simp only [h1, ht, h2, Option.bind_some]
    rw [if_neg (by decide)]
    by_cases hst : (etxt a).toList = t.toList
    · rw [if_pos hst]
      obtain rfl := name_inj ha0 ha1 hb0 hb1 h1 ht hst
      rw [show (a != a) = false by simp]
      exact found_j0 a false ⟨fun h => (by cases h), fun h => absurd h ka⟩
    · rw [if_neg hst]
      exact found_j0 a false ⟨fun h => (by cases h), fun h => absurd h ka⟩
/-! ### the document's names -/
def g70 (x : S66) : S70 := ⟨x.f0, x.f1⟩
theorem rows_f : pumiceref04_Rows.f = some (L66.map g70) := by kernel_rfl
theorem rd70 (xs : List S66) (i : Nat) (h : i < xs.length) : rd_T70 (xs.map g70) (i : Int) = g70 (rd_T66 xs (i : Int)) := by
  unfold rd_T70 rd_T66
  rw [List.getD_eq_getElem?_getD, List.getD_eq_getElem?_getD, show ((i : Int)).toNat = i by omega, List.getElem?_map, List.getElem?_eq_getElem h]
  rfl
theorem find_both (s : ByteArray) (xs : List S66) (hl : xs.length ≤ 1000) : ∀ (d k i : Nat), xs.length - i = d → i ≤ xs.length → d + 1 ≤ k → ∃ r, fault_Find.l0 k s xs (xs.length : Int) (i : Int) = some r ∧ pumiceref04_Find.l0 k s (xs.map g70) (i : Int) = some r := by
  intro d
  induction d with
  | zero =>
    intro k i h0 h1 h2
    obtain ⟨j, rfl⟩ : ∃ j, k = j + 1 := ⟨k - 1, by omega⟩
    refine ⟨(0, false), ?_, ?_⟩
    · rw [fault_Find.l0, if_neg (by omega)]
    · rw [pumiceref04_Find.l0, if_neg (by rw [List.length_map]; omega)]
  | succ d ih =>
    intro k i h0 h1 h2
    obtain ⟨j, rfl⟩ : ∃ j, k = j + 1 := ⟨k - 1, by omega⟩
    have hw : wrap64 ((i : Int) + 1) = ((i + 1 : Nat) : Int) := by rw [w64 _ (by omega)]; omega
    obtain ⟨r, hr1, hr2⟩ := ih j (i + 1) (by omega) (by omega) (by omega)
    have e1 : fault_Find.l0 (j + 1) s xs (xs.length : Int) (i : Int) = if (rd_T66 xs (i : Int)).f1.toList = s.toList then some ((rd_T66 xs (i : Int)).f0, true) else fault_Find.l0 j s xs (xs.length : Int) ((i + 1 : Nat) : Int) := by rw [fault_Find.l0, if_pos (by omega), if_pos (by omega), if_pos (by omega), hw]
    have e2 : pumiceref04_Find.l0 (j + 1) s (xs.map g70) (i : Int) = if (rd_T66 xs (i : Int)).f1.toList = s.toList then some ((rd_T66 xs (i : Int)).f0, true) else pumiceref04_Find.l0 j s (xs.map g70) ((i + 1 : Nat) : Int) := by
      rw [pumiceref04_Find.l0, if_pos (by rw [List.length_map]; omega), if_pos (by omega), hw, rd70 xs i (by omega)]; rfl
    rw [e1, e2]
    by_cases hz : (rd_T66 xs (i : Int)).f1.toList = s.toList
    · rw [if_pos hz, if_pos hz]; exact ⟨_, rfl, rfl⟩
    · rw [if_neg hz, if_neg hz]; exact ⟨r, hr1, hr2⟩
theorem natAbs_facts (n : Int) : (n.tdiv 10).natAbs = n.natAbs / 10 ∧ (n.tmod 10).natAbs = n.natAbs % 10 := by
  rcases Int.lt_or_le n 0 with h | h
  · rw [((tqr n).2 h).1, ((tqr n).2 h).2]; omega
  · rw [((tqr n).1 h).1, ((tqr n).1 h).2]; omega
theorem dec_itoa : ∀ (k : Nat) (n : Int), n.natAbs < 10 ^ (k + 1) → (dec (k + 1) n).data.toList = if n < 0 then 45 :: Lib.decDigits n.natAbs else Lib.decDigits n.natAbs := by
  intro k
  induction k with
  | zero =>
    intro n hn
    have h10 : n.natAbs < 10 := by omega
    have hf := natAbs_facts n
    have hq : n.tdiv 10 = 0 := by omega
    have hd : dg n = UInt8.ofNat (48 + n.natAbs) := by unfold dg; rw [hf.2, Nat.mod_eq_of_lt h10]
    rw [dec, if_pos hq, hd, Lib.decDigits, dif_pos h10]
    split <;> simp
  | succ k ih =>
    intro n hn
    have hf := natAbs_facts n
    by_cases h10 : n.natAbs < 10
    · have hq : n.tdiv 10 = 0 := by omega
      have hd : dg n = UInt8.ofNat (48 + n.natAbs) := by unfold dg; rw [hf.2, Nat.mod_eq_of_lt h10]
      rw [dec, if_pos hq, hd, Lib.decDigits, dif_pos h10]
      split <;> simp
    · have hq : n.tdiv 10 ≠ 0 := by omega
      have hs : (n.tdiv 10 < 0) = (n < 0) := by
        rcases Int.lt_or_le n 0 with h | h
        · have := ((tqr n).2 h).1
          exact propext ⟨fun _ => h, fun _ => by omega⟩
        · have := ((tqr n).1 h).1
          exact propext ⟨fun _ => by omega, fun _ => by omega⟩
      have hi := ih (n.tdiv 10) (by rw [hf.1]; rw [Nat.pow_succ] at hn; omega)
      rw [dec, if_neg hq, ByteArray.data_append, Array.toList_append, hi, hf.1]
      conv => rhs; rw [Lib.decDigits, dif_neg h10]
      have hd : dg n = UInt8.ofNat (48 + n.natAbs % 10) := by unfold dg; rw [hf.2]
      rw [hd]
      by_cases hneg : n < 0
      · rw [if_pos (by rw [hs]; exact hneg), if_pos hneg]; rfl
      · rw [if_neg (by rw [hs]; exact hneg), if_neg hneg]
theorem decimal_itoa (a : Int) (h0 : -9223372036854775808 ≤ a) (h1 : a ≤ 9223372036854775807) : Decimal.f a = strconv_Itoa.f a := by
  unfold Decimal.f strconv_Itoa.f
  rw [if_pos ⟨h0, h1⟩, if_pos ⟨h0, h1⟩]
  congr 1
  apply ba_of_list
  rw [dec_itoa 19 a (by omega)]
  unfold Lib.itoa
  show _ = (if a < 0 then 45 :: Lib.decDigits a.natAbs else Lib.decDigits a.toNat)
  by_cases h : a < 0
  · rw [if_pos h, if_pos h]
  · rw [if_neg h, if_neg h, show a.natAbs = a.toNat by omega]
theorem name_both (a : Int) (h0 : -9223372036854775808 ≤ a) (h1 : a ≤ 9223372036854775807) (xs : List S66) (hl : xs.length ≤ 1000) : ∀ (d k i : Nat), xs.length - i = d → i ≤ xs.length → d + 1 ≤ k → ∃ r, fault_Name.l0 k a xs (xs.length : Int) (i : Int) = some r ∧ pumiceref04_Name.l0 k a (xs.map g70) (i : Int) = some r := by
  intro d
  induction d with
  | zero =>
    intro k i h2 h3 h4
    obtain ⟨j, rfl⟩ : ∃ j, k = j + 1 := ⟨k - 1, by omega⟩
    refine ⟨etxt a, ?_, ?_⟩
    · rw [fault_Name.l0, if_neg (by omega)]
      exact nameTail_some a h0 h1
    · rw [pumiceref04_Name.l0, if_neg (by rw [List.length_map]; omega), decimal_itoa a h0 h1]
      exact nameTail_some a h0 h1
  | succ d ih =>
    intro k i h2 h3 h4
    obtain ⟨j, rfl⟩ : ∃ j, k = j + 1 := ⟨k - 1, by omega⟩
    have hw : wrap64 ((i : Int) + 1) = ((i + 1 : Nat) : Int) := by rw [w64 _ (by omega)]; omega
    obtain ⟨r, hr1, hr2⟩ := ih j (i + 1) (by omega) (by omega) (by omega)
    have e1 : fault_Name.l0 (j + 1) a xs (xs.length : Int) (i : Int) = if (rd_T66 xs (i : Int)).f0 = a then some (rd_T66 xs (i : Int)).f1 else fault_Name.l0 j a xs (xs.length : Int) ((i + 1 : Nat) : Int) := by rw [fault_Name.l0, if_pos (by omega), if_pos (by omega), if_pos (by omega), hw]
    have e2 : pumiceref04_Name.l0 (j + 1) a (xs.map g70) (i : Int) = if (rd_T66 xs (i : Int)).f0 = a then some (rd_T66 xs (i : Int)).f1 else pumiceref04_Name.l0 j a (xs.map g70) ((i + 1 : Nat) : Int) := by
      rw [pumiceref04_Name.l0, if_pos (by rw [List.length_map]; omega), if_pos (by omega), hw, rd70 xs i (by omega)]; rfl
    rw [e1, e2]
    by_cases hz : (rd_T66 xs (i : Int)).f0 = a
    · rw [if_pos hz, if_pos hz]; exact ⟨_, rfl, rfl⟩
    · rw [if_neg hz, if_neg hz]; exact ⟨r, hr1, hr2⟩
theorem faultNames_plain (a : Int) (s : ByteArray) (h0 : -9223372036854775808 ≤ a) (h1 : a ≤ 9223372036854775807) : pumicelaw04_FaultNames.f 40 a s = some true := by
  obtain ⟨r, hr1, hr2⟩ := find_both s L66 (by rw [L66_len]; omega) 23 40 0 (by rw [L66_len]) (by omega) (by omega)
  obtain ⟨t, ht1, ht2⟩ := name_both a h0 h1 L66 (by rw [L66_len]; omega) 23 40 0 (by rw [L66_len]) (by omega) (by omega)
  have e1 : fault_Find.f 40 s = some r := by unfold fault_Find.f; rw [all_f, Option.bind_some]; exact hr1
  have e2 : pumiceref04_Find.f 40 s = some r := by unfold pumiceref04_Find.f; rw [rows_f, Option.bind_some]; exact hr2
  have e3 : fault_Name.f 40 a = some t := by unfold fault_Name.f; rw [all_f, Option.bind_some]; exact ht1
  have e4 : pumiceref04_Name.f 40 a = some t := by unfold pumiceref04_Name.f; rw [rows_f, Option.bind_some]; exact ht2
  unfold pumicelaw04_FaultNames.f
  simp [e1, e2, e3, e4, class_f 40 (by omega), rclass_f 40 (by omega), alive.f]
theorem wf64 {a : Int} (h : (Lit.int .i64 a).wf = true) : -9223372036854775808 ≤ a ∧ a ≤ 9223372036854775807 := by
  have h1 : IntKind.i64.min = -9223372036854775808 := rfl
  have h2 : IntKind.i64.max = 9223372036854775807 := rfl
  simpa [Lit.wf, h1, h2] using h
end Go.Proofs.YtfmmmojlnfndkaaDoor.Q
