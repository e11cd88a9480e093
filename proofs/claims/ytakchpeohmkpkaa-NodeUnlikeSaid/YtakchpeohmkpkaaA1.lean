/- NodeOrder, plain. -/
import Derived.Test.YtakchpeohmkpkaaQ7
import Derived.Lib.Strings
namespace Go.Proofs.Ytakchpeohmkpkaa.Q
open Go.RowKit Go.Proofs.YtakchpeohmkpkaaW.PrintWords
set_option linter.unusedVariables false
set_option linter.unusedSimpArgs false

def u8_ (x : Int) : UInt8 := UInt8.ofNat x.toNat
theorem u8_nat {x : Int} (h0 : 0 ≤ x) (h1 : x < 256) : ((u8_ x).toNat : Int) = x := by
  unfold u8_
  rw [UInt8.toNat_ofNat']
  omega
theorem u8_lt {a b : Int} (ha : 0 ≤ a ∧ a < 256) (hb : 0 ≤ b ∧ b < 256) : (u8_ a < u8_ b) ↔ a < b := by
  rw [UInt8.lt_iff_toNat_lt]
  have := u8_nat ha.1 ha.2
  have := u8_nat hb.1 hb.2
  omega
theorem u8_eq {a b : Int} (ha : 0 ≤ a ∧ a < 256) (hb : 0 ≤ b ∧ b < 256) : (u8_ a = u8_ b) ↔ a = b := by
  rw [← UInt8.toNat_inj]
  have := u8_nat ha.1 ha.2
  have := u8_nat hb.1 hb.2
  omega
theorem less_cons {a b : Int} (ha : 0 ≤ a ∧ a < 256) (hb : 0 ≤ b ∧ b < 256) (s t : List UInt8) : Op.bytesLess (u8_ a :: s) (u8_ b :: t) = true ↔ a < b ∨ (a = b ∧ Op.bytesLess s t = true) := by
  simp only [Op.bytesLess, Bool.or_eq_true, Bool.and_eq_true, decide_eq_true_eq, beq_iff_eq]
  rw [u8_lt ha hb, u8_eq ha hb]
theorem less_nil (s : List UInt8) : Op.bytesLess s [] = false := by cases s <;> rfl
theorem nil_less (x : UInt8) (s : List UInt8) : Op.bytesLess [] (x :: s) = true := rfl

theorem app_list (a b : ByteArray) : (a ++ b).toList = a.toList ++ b.toList := by
  rw [Lib.toList_data, Lib.toList_data, Lib.toList_data]
  simp
theorem str_list (xs : List Int) : (strOfNums xs).toList = xs.map u8_ := by
  rw [Lib.toList_data, strOfNums_data]
  rfl
def hi (x : Int) : Int := x / 256 % 256
def lo (x : Int) : Int := x % 256
theorem hi_r (x : Int) : 0 ≤ hi x ∧ hi x < 256 := by unfold hi; omega
theorem lo_r (x : Int) : 0 ≤ lo x ∧ lo x < 256 := by unfold lo; omega
theorem k_r {k : Int} (h0 : 0 ≤ k) (h1 : k < 256) : 0 ≤ k ∧ k < 256 := ⟨h0, h1⟩
theorem two_ok (x : Int) : ∃ b, node_two.f x = some b ∧ b.toList = [u8_ (hi x), u8_ (lo x)] ∧ b.size = 2 := by
  refine ⟨_, rfl, ?_, ?_⟩
  · rw [str_list]; rfl
  · rw [strOfNums_size]; rfl
theorem key_ok (x k : Int) (h0 : 0 ≤ k) (h1 : k < 256) : ∃ b, node_key.f x k = some b ∧ b.toList = [u8_ (hi x), u8_ (lo x), u8_ k] ∧ b.size = 3 := by
  obtain ⟨t, ht, hl, hs⟩ := two_ok x
  unfold node_key.f
  rw [ht, Option.bind_some, Option.bind_some, strOfNums_size]
  rw [if_pos (by rw [hs]; simp)]
  refine ⟨_, rfl, ?_, ?_⟩
  · rw [app_list, hl, str_list]
    simp
    rw [show k % 256 = k from by omega]
  · rw [ByteArray.size_append, hs, strOfNums_size]; rfl
theorem entry_ok (x : Int) (a : ByteArray) (h : a.size ≤ 140737488355328) : ∃ b, node_EntryKey.f x a = some b ∧ b.toList = u8_ (hi x) :: u8_ (lo x) :: u8_ 2 :: a.toList := by
  obtain ⟨t, ht, hl, hs⟩ := key_ok x 2 (by omega) (by omega)
  unfold node_EntryKey.f
  rw [ht, Option.bind_some, if_pos (by omega)]
  exact ⟨_, rfl, by rw [app_list, hl]; rfl⟩
theorem inode_ok (x : Int) : ∃ b, node_InodeKey.f x = some b ∧ b.toList = [u8_ (hi x), u8_ (lo x), u8_ 1] := by
  obtain ⟨t, ht, hl, hs⟩ := key_ok x 1 (by omega) (by omega)
  unfold node_InodeKey.f
  rw [ht, Option.bind_some]
  exact ⟨_, rfl, hl⟩
theorem block_ok (x y : Int) : ∃ b, node_BlockKey.f x y = some b ∧ b.toList = [u8_ (hi x), u8_ (lo x), u8_ 3, u8_ (hi y), u8_ (lo y)] := by
  obtain ⟨t, ht, hl, hs⟩ := key_ok x 3 (by omega) (by omega)
  obtain ⟨v, hv, hm, hz⟩ := two_ok y
  unfold node_BlockKey.f
  rw [ht, Option.bind_some, hv, Option.bind_some, if_pos (by omega)]
  exact ⟨_, rfl, by rw [app_list, hl, hm]; rfl⟩
theorem orphan_ok (x : Int) : ∃ b, node_OrphanKey.f x = some b ∧ b.toList = [u8_ 0, u8_ 0, u8_ 4, u8_ (hi x), u8_ (lo x)] := by
  obtain ⟨v, hv, hm, hz⟩ := two_ok x
  unfold node_OrphanKey.f
  rw [hv, Option.bind_some, if_pos (by omega)]
  exact ⟨_, rfl, by rw [app_list, hm, Lib.toList_data]; rfl⟩
theorem from_ok (x k : Int) (h0 : 0 ≤ k) (h1 : k < 255) : ∃ f t, node_From.f x k = some (f, t) ∧ f.toList = [u8_ (hi x), u8_ (lo x), u8_ k] ∧ t.toList = [u8_ (hi x), u8_ (lo x), u8_ (k + 1)] := by
  obtain ⟨f, hf, hl, _⟩ := key_ok x k h0 (by omega)
  obtain ⟨t, ht, hm, _⟩ := key_ok x (k + 1) (by omega) (by omega)
  unfold node_From.f
  rw [hf, Option.bind_some, show wrap64 (k + 1) = k + 1 from by unfold wrap64; omega, ht, Option.bind_some]
  exact ⟨_, _, rfl, hl, hm⟩
theorem within_ok (k f t : ByteArray) : pumicelaw06_within.f k f t = some (!Op.bytesLess k.toList f.toList && Op.bytesLess k.toList t.toList) := by
  unfold pumicelaw06_within.f names_Less.f
  rw [Option.bind_some]
  cases h : Op.bytesLess k.toList f.toList <;> simp
theorem hilo {x y : Int} (hx : 0 ≤ x ∧ x ≤ 4096) (hy : 0 ≤ y ∧ y ≤ 4096) : (x < y ↔ (hi x < hi y ∨ (hi x = hi y ∧ lo x < lo y))) ∧ (x = y ↔ (hi x = hi y ∧ lo x = lo y)) := by
  unfold hi lo
  omega
set_option maxRecDepth 100000 in
theorem alive_true : pumicelaw06_alive.f = some true := by decide +kernel

theorem bool_eq {a b : Bool} (h : a = true ↔ b = true) : a = b := by cases a <;> cases b <;> simp_all
theorem less_self (s t : List UInt8) {a : Int} (ha : 0 ≤ a ∧ a < 256) : Op.bytesLess (u8_ a :: s) (u8_ a :: t) = Op.bytesLess s t := by
  apply bool_eq
  rw [less_cons ha ha]
  simp
/-- Two heads of two bytes each, and what stands behind. -/
theorem less_head {x y : Int} (hx : 0 ≤ x ∧ x ≤ 4096) (hy : 0 ≤ y ∧ y ≤ 4096) (s t : List UInt8) :
    Op.bytesLess (u8_ (hi x) :: u8_ (lo x) :: s) (u8_ (hi y) :: u8_ (lo y) :: t) = (decide (x < y) || (decide (x = y) && Op.bytesLess s t)) := by
  apply bool_eq
  rw [less_cons (hi_r x) (hi_r y), less_cons (lo_r x) (lo_r y)]
  simp only [Bool.or_eq_true, Bool.and_eq_true, decide_eq_true_eq]
  obtain ⟨h1, h2⟩ := hilo hx hy
  rw [h1, h2]
  constructor
  · rintro (h | ⟨h, h' | ⟨h', h''⟩⟩)
    · exact .inl (.inl h)
    · exact .inl (.inr ⟨h, h'⟩)
    · exact .inr ⟨⟨h, h'⟩, h''⟩
  · rintro ((h | ⟨h, h'⟩) | ⟨⟨h, h'⟩, h''⟩)
    · exact .inl h
    · exact .inr ⟨h, .inl h'⟩
    · exact .inr ⟨h, .inr ⟨h', h''⟩⟩
theorem less_byte {a b : Int} (ha : 0 ≤ a ∧ a < 256) (hb : 0 ≤ b ∧ b < 256) (s t : List UInt8) : Op.bytesLess (u8_ a :: s) (u8_ b :: t) = (decide (a < b) || (decide (a = b) && Op.bytesLess s t)) := by
  apply bool_eq
  rw [less_cons ha hb]
  simp
/-- Is a key of the number y within the keys of the number x of the kind k? -/
theorem within_key {x y k j : Int} {key f t : ByteArray} {s : List UInt8} (hx : 0 ≤ x ∧ x ≤ 4096) (hy : 0 ≤ y ∧ y ≤ 4096) (hk : 0 ≤ k ∧ k < 255) (hj : 0 ≤ j ∧ j < 256)
    (h1 : key.toList = u8_ (hi y) :: u8_ (lo y) :: u8_ j :: s) (h2 : f.toList = [u8_ (hi x), u8_ (lo x), u8_ k]) (h3 : t.toList = [u8_ (hi x), u8_ (lo x), u8_ (k + 1)]) :
    pumicelaw06_within.f key f t = some (decide (y = x ∧ j = k)) := by
  rw [within_ok, h1, h2, h3, less_head hy hx, less_head hy hx, less_byte hj ⟨hk.1, by omega⟩, less_byte hj ⟨by omega, by omega⟩, less_nil]
  congr 1
  apply bool_eq
  simp
  omega
theorem orphan_within {x k : Int} {key f t : ByteArray} (hx : 1 ≤ x ∧ x ≤ 4096) (hk : 0 ≤ k ∧ k < 255) {s : List UInt8}
    (h1 : key.toList = u8_ 0 :: u8_ 0 :: s) (h2 : f.toList = [u8_ (hi x), u8_ (lo x), u8_ k]) (h3 : t.toList = [u8_ (hi x), u8_ (lo x), u8_ (k + 1)]) :
    pumicelaw06_within.f key f t = some false := by
  have h0 : key.toList = u8_ (hi 0) :: u8_ (lo 0) :: s := h1
  rw [within_ok, h0, h2, h3, less_head ⟨by omega, by omega⟩ ⟨by omega, by omega⟩, less_head ⟨by omega, by omega⟩ ⟨by omega, by omega⟩]
  have h4 : (0 : Int) < x := by omega
  simp [h4]

theorem NodeOrder_pure (a0 a1 : Int) (a2 a3 : ByteArray) (a4 a5 : Int) (z2 : a2.size ≤ 140737488355328) (z3 : a3.size ≤ 140737488355328) : pumicelaw06_NodeOrder.f 20 a0 a1 a2 a3 a4 a5 = some true := by
  obtain ⟨k, hk⟩ : ∃ k, k + 1 + 1 + 1 + 1 = 20 := ⟨16, rfl⟩
  rw [← hk]
  clear hk
  have hout : pumicelaw06_NodeOrder.j0 (k + 1 + 1 + 1 + 1) a0 a1 a2 a3 a4 a5 true = some true := by
    rw [pumicelaw06_NodeOrder.j0, if_pos rfl, alive_true]
    rfl
  unfold pumicelaw06_NodeOrder.f
  by_cases c0 : a0 < 1
  · rw [if_pos c0, hout]
  rw [if_neg c0]
  by_cases c1 : a0 > 4096
  · rw [if_pos c1, hout]
  rw [if_neg c1]
  by_cases c2 : a1 < 1
  · rw [if_pos c2, hout]
  rw [if_neg c2]
  by_cases c3 : a1 > 4096
  · rw [if_pos c3, hout]
  rw [if_neg c3]
  by_cases c4 : a4 < 0
  · rw [if_pos c4, hout]
  rw [if_neg c4]
  by_cases c5 : a4 > 127
  · rw [if_pos c5, hout]
  rw [if_neg c5]
  by_cases c6 : a5 < 0
  · rw [if_pos c6, hout]
  rw [if_neg c6]
  by_cases c7 : a5 > 127
  · rw [decide_eq_true c7, hout]
  rw [decide_eq_false c7]
  have hx : 0 ≤ a0 ∧ a0 ≤ 4096 := by omega
  have hy : 0 ≤ a1 ∧ a1 ≤ 4096 := by omega
  have h4 : 0 ≤ a4 ∧ a4 ≤ 4096 := by omega
  have h5 : 0 ≤ a5 ∧ a5 ≤ 4096 := by omega
  obtain ⟨e1, he1, le1⟩ := entry_ok a0 a2 z2
  obtain ⟨e2, he2, le2⟩ := entry_ok a0 a3 z3
  obtain ⟨e3, he3, le3⟩ := entry_ok a1 a2 z2
  obtain ⟨b1, hb1, lb1⟩ := block_ok a0 a4
  obtain ⟨b2, hb2, lb2⟩ := block_ok a0 a5
  obtain ⟨b3, hb3, lb3⟩ := block_ok a1 a5
  obtain ⟨i1, hi1, li1⟩ := inode_ok a0
  obtain ⟨i2, hi2, li2⟩ := inode_ok a1
  obtain ⟨o1, ho1, lo1⟩ := orphan_ok a0
  obtain ⟨f2, t2, hf2, lf2, lt2⟩ := from_ok a0 2 (by omega) (by omega)
  obtain ⟨f3, t3, hf3, lf3, lt3⟩ := from_ok a0 3 (by omega) (by omega)
  rw [pumicelaw06_NodeOrder.j0, if_neg (by decide)]
  unfold names_Less.f
  rw [Option.bind_some, he1, Option.bind_some, he2, Option.bind_some, Option.bind_some, le1, le2, less_self _ _ (hi_r a0), less_self _ _ (lo_r a0), less_self _ _ ⟨by decide, by decide⟩, bne_self_eq_false, if_neg (by decide), hb1, Option.bind_some, hb2, Option.bind_some, Option.bind_some, lb1, lb2,
    less_self _ _ (hi_r a0), less_self _ _ (lo_r a0), less_self _ _ ⟨by decide, by decide⟩, less_head h4 h5, less_nil, Bool.and_false, Bool.or_false, bne_self_eq_false]
  rw [pumicelaw06_NodeOrder.j1, if_neg (by decide), hf2, Option.bind_some, he1, Option.bind_some, within_key hx hx ⟨by decide, by decide⟩ ⟨by decide, by decide⟩ le1 lf2 lt2, Option.bind_some, if_pos (by simp), hi1, Option.bind_some,
    within_key hx hx ⟨by decide, by decide⟩ ⟨by decide, by decide⟩ li1 lf2 lt2, Option.bind_some, if_neg (by simp), hb1, Option.bind_some, within_key hx hx ⟨by decide, by decide⟩ ⟨by decide, by decide⟩ lb1 lf2 lt2, Option.bind_some, if_neg (by simp),
    ho1, Option.bind_some, orphan_within ⟨by omega, by omega⟩ ⟨by decide, by decide⟩ lo1 lf2 lt2, Option.bind_some, if_neg (by simp), he3, Option.bind_some, within_key hx hy ⟨by decide, by decide⟩ ⟨by decide, by decide⟩ le3 lf2 lt2, Option.bind_some]
  have g1 : ((a1 != a0) == decide (a1 = a0 ∧ (2 : Int) = 2)) = false := by
    by_cases h : a1 = a0 <;> simp [h]
  rw [g1]
  rw [pumicelaw06_NodeOrder.j2, if_neg (by decide), hf3, Option.bind_some, hb1, Option.bind_some, within_key hx hx ⟨by decide, by decide⟩ ⟨by decide, by decide⟩ lb1 lf3 lt3, Option.bind_some, if_pos (by simp), he1, Option.bind_some,
    within_key hx hx ⟨by decide, by decide⟩ ⟨by decide, by decide⟩ le1 lf3 lt3, Option.bind_some, if_neg (by simp), hb3, Option.bind_some, within_key hx hy ⟨by decide, by decide⟩ ⟨by decide, by decide⟩ lb3 lf3 lt3, Option.bind_some]
  have g2 : ((a1 != a0) == decide (a1 = a0 ∧ (3 : Int) = 3)) = false := by
    by_cases h : a1 = a0 <;> simp [h]
  rw [g2]
  rw [pumicelaw06_NodeOrder.j3]
  unfold names_Less.f
  rw [if_neg (by decide), hi1, Option.bind_some, hi2, Option.bind_some, Option.bind_some, li1, li2, less_head hx hy, less_self _ _ ⟨by decide, by decide⟩, less_nil, Bool.and_false, Bool.or_false, if_pos (by simp), alive_true]
  rfl
end Go.Proofs.Ytakchpeohmkpkaa.Q
