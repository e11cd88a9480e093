/- names.Within: the one list begins with the other. -/
import Derived.Test.YthcooheghekplaaDoorQ1
import Derived.Test.YthcooheghekplaaDoorWGuard
namespace Go.Proofs.YthcooheghekplaaDoor.Q
open Go.RowKit Go.Proofs.YthcooheghekplaaDoorW.PrintWords Go.Proofs.YthcooheghekplaaDoorW.PrintLast Go.Proofs.YthcooheghekplaaDoorW.PrintMore
set_option linter.unusedVariables false
set_option linter.unusedSimpArgs false
theorem rdOf_at {l : List ByteArray} {i : Nat} {x : ByteArray} (h : l[i]? = some x) : rdOf ByteArray.empty l (i : Int) = x := by
  unfold rdOf
  simp [List.getD_eq_getElem?_getD, h]
theorem toList_inj {a b : ByteArray} : a.toList = b.toList ↔ a = b := by
  rw [ByteArray.toList_eq, ByteArray.toList_eq]
  constructor
  · intro h
    exact ByteArray.ext (Array.ext' h)
  · intro h; rw [h]
theorem w64n {i : Nat} (h : i < 9223372036854775807) : wrap64 ((i : Int) + 1) = ((i + 1 : Nat) : Int) := by unfold wrap64; omega
theorem equal_l0 (l m : List ByteArray) (hl : l.length = m.length) (hb : l.length ≤ 9223372036854775807) : ∀ (d k i : Nat), l.length - i = d → i ≤ l.length → d + 1 ≤ k → slices_Equal_string_string.l0 k l m (l.length : Int) (i : Int) = some (decide (l.drop i = m.drop i)) := by
  intro d
  induction d with
  | zero =>
    intro k i h0 h1 h2
    obtain ⟨j, rfl⟩ : ∃ j, k = j + 1 := ⟨k - 1, by omega⟩
    rw [slices_Equal_string_string.l0, if_neg (by omega), List.drop_of_length_le (by omega), List.drop_of_length_le (by omega)]
    simp
  | succ d ih =>
    intro k i h0 h1 h2
    obtain ⟨j, rfl⟩ : ∃ j, k = j + 1 := ⟨k - 1, by omega⟩
    have hi : i < l.length := by omega
    have hj : i < m.length := by omega
    rw [slices_Equal_string_string.l0, if_pos (by omega), if_pos (by omega), if_pos (by omega), if_pos (by omega), rdOf_at (List.getElem?_eq_getElem hi), rdOf_at (List.getElem?_eq_getElem hj), w64n (by omega), List.drop_eq_getElem_cons hi, List.drop_eq_getElem_cons hj]
    by_cases he : l[i] = m[i]
    · rw [if_pos (by rw [he]), ih j (i + 1) (by omega) (by omega) (by omega)]
      congr 1
      exact decide_eq_decide.2 ⟨fun h => by rw [he, h], fun h => (List.cons.inj h).2⟩
    · rw [if_neg (fun h => he (toList_inj.1 h))]
      congr 1
      symm
      exact decide_eq_false (fun h => he (List.cons.inj h).1)
theorem equal_f (l m : List ByteArray) (hb : l.length ≤ 9223372036854775807) : slices_Equal_string_string.f (l.length + 1) l m = some (decide (l = m)) := by
  unfold slices_Equal_string_string.f
  by_cases hl : l.length = m.length
  · rw [if_pos (by omega)]
    exact equal_l0 l m hl hb l.length (l.length + 1) 0 (by omega) (by omega) (by omega)
  · rw [if_neg (by omega)]
    congr 1
    symm
    rw [decide_eq_false_iff_not]
    intro h
    exact hl (by rw [h])
def names_Within.f (l0 l1 : List ByteArray) : Option Bool := some (decide (l1 <+: l0))
set_option maxRecDepth 100000 in
set_option maxHeartbeats 4000000 in
theorem names_Within.calls (A0 : Option Addr) (c0 : Nat) (l0 : List ByteArray) (A1 : Option Addr) (c1 : Nat) (l1 : List ByteArray) (r : Bool) (w : World) (hr0 : Kd.C Kd.string w A0 l0.length l0) (hc0 : l0.length ≤ c0) (hr1 : Kd.C Kd.string w A1 l1.length l1) (hc1 : l1.length ≤ c1) (h : names_Within.f l0 l1 = some r) :
    Calls Tryd.prog 19 #[.slice A0 l0.length c0, .slice A1 l1.length c1] w fun e w' => e = .returned (.bool r) ∧ Below w.heap.size w w' := by
  unfold names_Within.f at h
  obtain rfl := Option.some.inj h
  have hbig := hr0.2.1
  obtain ⟨n, hn⟩ : ∃ n, l0.length = n := ⟨_, rfl⟩
  obtain ⟨m, hm⟩ : ∃ m, l1.length = m := ⟨_, rfl⟩
  by_cases hmn : m ≤ n
  · obtain ⟨i07, hi07, _, hsz7, _⟩ := info_parts info9
    have h1 : (l1.length : Int) ≤ (l0.length : Int) := by omega
    have h10 : (0 : Int) ≤ (l1.length : Int) := by omega
    obtain ⟨hcut7, hA7, hC7⟩ := print_take_of (P := Tryd.prog) Value.string (⟨#[]⟩ : ByteArray) 22 9 .i64 Tryd.underlying22 hi07 hsz7 A0 c0 l0 (l1.length : Int) h10 h1 hc0
    have hR := Kd.C_of_reads (h1 := fun _ => rfl) (hA7 _ (Kd.reads_of_C hr0))
    have b0 := eq_true h1
    have b1 : decide ((l1.length : Int) ≤ (l0.length : Int)) = true := decide_eq_true h1
    have b2 : decide (l1.length ≤ l0.length) = true := decide_eq_true (Int.ofNat_le.mp h1)
    have b3 := eq_true h10
    have b4 : decide ((0 : Int) ≤ (l1.length : Int)) = true := decide_eq_true h10
    have ht : ((l1.length : Int)).toNat = l1.length := Int.toNat_natCast _
    have hlt : (l0.take l1.length).length = l1.length := by rw [List.length_take]; omega
    have hq : decide (l0.take l1.length = l1) = decide (l1 <+: l0) := by
      congr 1
      rw [List.prefix_iff_eq_take]
      exact propext ⟨fun h => h.symm, fun h => h.symm⟩
    have hE := equal_f (l0.take l1.length) l1 (by rw [hlt]; omega)
    rw [hq] at hE
    rw [ht] at hR hC7
    have hCall := slices_Equal_string_string.calls _ A0 c0 (l0.take l1.length) A1 c1 l1 _ w hR hC7 hr1 hc1 hE
    rw [hlt] at hCall
    clear hE hR hC7 hr1 hc1 hq hbig hr0 hA7 hn hm hmn
    obtain ⟨q, hq⟩ : ∃ q, decide (l1 <+: l0) = q := ⟨_, rfl⟩
    rw [hq] at hCall ⊢
    clear hq
    go_enter Tryd.func19, Tryd.ntmps19
    go_wp2_with ((with_reducible refine gate_callee (f := 36) rfl ?_); go_loud (refine gate_guard (by first | rfl | kernel_rfl) ?_); go_loud (refine goesL_ (some 16) rfl rfl Tryd.func36 (by kernel_rfl) rfl #[.slice A0 l1.length c0, .slice A1 l1.length c1] rfl (by (try simp only [List.map_toArray, List.map_cons, List.map_nil]); first | done | rfl | (simp only [ht, hlt]; rfl)) ?_); go_loud (with_reducible refine hCall.mono ?_); rintro e w' ⟨rfl, hb⟩; refine ⟨_, rfl, ?_⟩)
    go_ret
    exact ⟨rfl, hb.below⟩
  · have h1 : ¬ ((l1.length : Int) ≤ (l0.length : Int)) := by omega
    have hq : decide (l1 <+: l0) = false := decide_eq_false (fun h => by have := h.length_le; omega)
    rw [hq]
    clear hr0 hr1 hq
    go_enter Tryd.func19, Tryd.ntmps19
    go_wp2
    go_ret
    exact ⟨rfl, Below.refl _ _⟩
end Go.Proofs.YthcooheghekplaaDoor.Q
