/- ref.Decimal: a number in decimal digits. -/
import Derived.Test.YtfmmmojlnfndkaaDoorE5
import Derived.Lib.Strings
namespace Go.Proofs.YtfmmmojlnfndkaaDoor.Q
open Go.RowKit Go.Proofs.YtfmmmojlnfndkaaDoorW.PrintWords Go.Proofs.YtfmmmojlnfndkaaDoorW.PrintLast Go.Proofs.YtfmmmojlnfndkaaDoor.As
set_option maxHeartbeats 1000000
set_option linter.unusedVariables false
set_option maxRecDepth 20000 in
theorem dec_a (n d c : Int) (x : UInt8) (w : World) (hq0 : (wrap64 (n.tdiv 10) != 0) = false) (hd : n.tmod 10 = d) (hc : wrap64 (48 + d) = c) (hx : c % 256 = (x.toNat : Int)) (hn : decide (n < 0) = false) :
    Calls Tryd.prog 35 #[.int .i64 n] w fun ev w' => ev = .returned (.string (⟨#[]⟩ ++ ⟨#[x]⟩)) ∧ Below w.heap.size w w' := by
  have hv : ∀ w : World, (convert 91 9 (.slice (some ⟨w.heap.size, 0, none⟩) 1 1)).run Tryd.prog (w.alloc (.cells #[.int .u8 (c % 256)] 5)) = .ok (.string ⟨#[x]⟩) (w.alloc (.cells #[.int .u8 (c % 256)] 5)) := by
    intro w; rw [hx]; exact conv1 w x 5 1
  clear hx
  go_enter Tryd.func35, Tryd.ntmps35
  go_upto_region 9 with (fail)
  all_goals (try go_wp2)
  all_goals (try go_ret)
  all_goals exact ⟨rfl, Below.alloc (Below.refl _ _) (Nat.le_refl _) _⟩
set_option maxRecDepth 20000 in
theorem dec_b (n d c m : Int) (x : UInt8) (w : World) (hq0 : (wrap64 (n.tdiv 10) != 0) = false) (hd : n.tmod 10 = d) (hm : wrap64 (-d) = m) (hc : wrap64 (48 + m) = c) (hx : c % 256 = (x.toNat : Int)) (hn : decide (n < 0) = true) :
    Calls Tryd.prog 35 #[.int .i64 n] w fun ev w' => ev = .returned (.string (⟨#[45]⟩ ++ ⟨#[x]⟩)) ∧ Below w.heap.size w w' := by
  have hv : ∀ w : World, (convert 91 9 (.slice (some ⟨w.heap.size, 0, none⟩) 1 1)).run Tryd.prog (w.alloc (.cells #[.int .u8 (c % 256)] 5)) = .ok (.string ⟨#[x]⟩) (w.alloc (.cells #[.int .u8 (c % 256)] 5)) := by
    intro w; rw [hx]; exact conv1 w x 5 1
  clear hx
  go_enter Tryd.func35, Tryd.ntmps35
  go_upto_region 9 with (fail)
  all_goals (try go_wp2)
  all_goals (try go_ret)
  all_goals exact ⟨rfl, Below.alloc (Below.refl _ _) (Nat.le_refl _) _⟩
set_option maxRecDepth 20000 in
theorem dec_c (n d c : Int) (x : UInt8) (w : World) (hq0 : (wrap64 (n.tdiv 10) != 0) = true) (hd : n.tmod 10 = d) (hc : wrap64 (48 + d) = c) (hx : c % 256 = (x.toNat : Int)) (hn : decide (n < 0) = false) (rest : ByteArray) (hr : rest.toList.isEmpty = false) (hs : ¬ 9223372036854775807 < rest.size + 1) (hI : Aside0 (∀ w, Calls Tryd.prog 35 #[.int .i64 (wrap64 (n.tdiv 10))] w fun ev w' => ev = .returned (.string rest) ∧ Below w.heap.size w w')) :
    Calls Tryd.prog 35 #[.int .i64 n] w fun ev w' => ev = .returned (.string (rest ++ ⟨#[x]⟩)) ∧ Below w.heap.size w w' := by
  have hv : ∀ w : World, (convert 91 9 (.slice (some ⟨w.heap.size, 0, none⟩) 1 1)).run Tryd.prog (w.alloc (.cells #[.int .u8 (c % 256)] 5)) = .ok (.string ⟨#[x]⟩) (w.alloc (.cells #[.int .u8 (c % 256)] 5)) := by
    intro w; rw [hx]; exact conv1 w x 5 1
  clear hx
  go_enter Tryd.func35, Tryd.ntmps35
  go_upto_region 9 with (first | ((with_reducible refine gate_callee (f := 35) rfl ?_); refine goesL_ (some 12) rfl rfl Tryd.func35 (by kernel_rfl) rfl #[.int .i64 (wrap64 (n.tdiv 10))] rfl (by (try simp only [List.map_toArray, List.map_cons, List.map_nil]); first | done | rfl) ?_; (with_reducible refine (hI.out w).mono ?_); rintro e' w' ⟨rfl, hb⟩; refine ⟨_, rfl, ?_⟩; have HB := Aside0.mk hb; clear hb))
  all_goals (try go_wp2)
  all_goals (try go_ret)
  all_goals exact ⟨rfl, Below.alloc HB.out HB.out.size _⟩
set_option maxRecDepth 20000 in
theorem dec_d (n d c m : Int) (x : UInt8) (w : World) (hq0 : (wrap64 (n.tdiv 10) != 0) = true) (hd : n.tmod 10 = d) (hm : wrap64 (-d) = m) (hc : wrap64 (48 + m) = c) (hx : c % 256 = (x.toNat : Int)) (hn : decide (n < 0) = true) (rest : ByteArray) (hr : rest.toList.isEmpty = false) (hs : ¬ 9223372036854775807 < rest.size + 1) (hI : Aside0 (∀ w, Calls Tryd.prog 35 #[.int .i64 (wrap64 (n.tdiv 10))] w fun ev w' => ev = .returned (.string rest) ∧ Below w.heap.size w w')) :
    Calls Tryd.prog 35 #[.int .i64 n] w fun ev w' => ev = .returned (.string (rest ++ ⟨#[x]⟩)) ∧ Below w.heap.size w w' := by
  have hv : ∀ w : World, (convert 91 9 (.slice (some ⟨w.heap.size, 0, none⟩) 1 1)).run Tryd.prog (w.alloc (.cells #[.int .u8 (c % 256)] 5)) = .ok (.string ⟨#[x]⟩) (w.alloc (.cells #[.int .u8 (c % 256)] 5)) := by
    intro w; rw [hx]; exact conv1 w x 5 1
  clear hx
  go_enter Tryd.func35, Tryd.ntmps35
  go_upto_region 9 with (first | ((with_reducible refine gate_callee (f := 35) rfl ?_); refine goesL_ (some 12) rfl rfl Tryd.func35 (by kernel_rfl) rfl #[.int .i64 (wrap64 (n.tdiv 10))] rfl (by (try simp only [List.map_toArray, List.map_cons, List.map_nil]); first | done | rfl) ?_; (with_reducible refine (hI.out w).mono ?_); rintro e' w' ⟨rfl, hb⟩; refine ⟨_, rfl, ?_⟩; have HB := Aside0.mk hb; clear hb))
  all_goals (try go_wp2)
  all_goals (try go_ret)
  all_goals exact ⟨rfl, Below.alloc HB.out HB.out.size _⟩

def dg (n : Int) : UInt8 := UInt8.ofNat (48 + (n.tmod 10).natAbs)
/-- The decimal digits. -/
def dec : Nat → Int → ByteArray
  | 0, _ => ⟨#[]⟩
  | k + 1, n => (if n.tdiv 10 = 0 then (if n < 0 then ⟨#[45]⟩ else ⟨#[]⟩) else dec k (n.tdiv 10)) ++ ⟨#[dg n]⟩
theorem dec_size : ∀ (k : Nat) (n : Int), (dec k n).size ≤ k + 1 := by
  intro k
  induction k with
  | zero => intro n; exact Nat.zero_le _
  | succ k ih =>
    intro n
    unfold dec
    rw [ByteArray.size_append]
    have h1 : (⟨#[dg n]⟩ : ByteArray).size = 1 := rfl
    have h2 : (⟨#[45]⟩ : ByteArray).size = 1 := rfl
    have h3 : (⟨#[]⟩ : ByteArray).size = 0 := rfl
    have h4 := ih (n.tdiv 10)
    split
    · split <;> omega
    · omega
theorem dec_ne (k : Nat) (n : Int) : (dec (k + 1) n).toList.isEmpty = false := by
  have h : (dec (k + 1) n).size ≠ 0 := by
    unfold dec
    rw [ByteArray.size_append]
    show _ + 1 ≠ 0
    omega
  rw [Lib.toList_data]
  have h2 : (dec (k + 1) n).data.toList.length ≠ 0 := by rw [Array.length_toList]; exact h
  cases hc : (dec (k + 1) n).data.toList with
  | nil => rw [hc] at h2; exact absurd rfl h2
  | cons a l => rfl
theorem w64 (n : Int) (h : -9223372036854775808 ≤ n ∧ n ≤ 9223372036854775807) : wrap64 n = n := by unfold wrap64; omega
theorem tqr (n : Int) : (0 ≤ n → n.tdiv 10 = n / 10 ∧ n.tmod 10 = n % 10) ∧ (n < 0 → n.tdiv 10 = -((-n) / 10) ∧ n.tmod 10 = -((-n) % 10)) := by
  refine ⟨fun h => ⟨Int.tdiv_eq_ediv_of_nonneg h, Int.tmod_eq_emod_of_nonneg h⟩, fun h => ?_⟩
  have h1 : n = -(-n) := by omega
  have h2 : (0 : Int) ≤ -n := by omega
  refine ⟨?_, ?_⟩
  · conv => lhs; rw [h1, Int.neg_tdiv, Int.tdiv_eq_ediv_of_nonneg h2]
  · conv => lhs; rw [h1, Int.neg_tmod, Int.tmod_eq_emod_of_nonneg h2]
theorem dg_toNat (n : Int) : ((dg n).toNat : Int) = 48 + (n.tmod 10).natAbs := by
  have h : (n.tmod 10).natAbs < 10 := by
    rcases Int.lt_or_le n 0 with h | h
    · rw [((tqr n).2 h).2]; omega
    · rw [((tqr n).1 h).2]; omega
  unfold dg
  rw [UInt8.toNat_ofNat']
  omega
theorem dec_base (k : Nat) (n : Int) (h0 : -9223372036854775808 ≤ n) (h1 : n ≤ 9223372036854775807) (hq0 : n.tdiv 10 = 0) (w : World) : Calls Tryd.prog 35 #[.int .i64 n] w fun ev w' => ev = .returned (.string (dec (k + 1) n)) ∧ Below w.heap.size w w' := by
  have hd := dg_toNat n
  have hq : (wrap64 (n.tdiv 10) != 0) = false := by rw [hq0, show wrap64 0 = 0 from by unfold wrap64; omega]; rfl
  by_cases hneg : n < 0
  · have hm := ((tqr n).2 hneg).2
    have h := dec_b n (n.tmod 10) (48 + (n.tmod 10).natAbs) (-(n.tmod 10)) (dg n) w hq rfl (w64 _ (by omega)) (by rw [w64 _ (by omega)]; omega) (by rw [hd]; omega) (by simpa using hneg)
    unfold dec
    rw [if_pos hq0, if_pos hneg]
    exact h
  · have hm := ((tqr n).1 (by omega)).2
    have h := dec_a n (n.tmod 10) (48 + (n.tmod 10).natAbs) (dg n) w hq rfl (by rw [w64 _ (by omega)]; omega) (by rw [hd]; omega) (by simpa using hneg)
    unfold dec
    rw [if_pos hq0, if_neg hneg]
    exact h
theorem dec_calls : ∀ (k : Nat) (n : Int), k ≤ 100 → n.natAbs < 10 ^ (k + 1) → -9223372036854775808 ≤ n → n ≤ 9223372036854775807 → ∀ w, Calls Tryd.prog 35 #[.int .i64 n] w fun ev w' => ev = .returned (.string (dec (k + 1) n)) ∧ Below w.heap.size w w' := by
  intro k
  induction k with
  | zero =>
    intro n hk hn h0 h1 w
    exact dec_base 0 n h0 h1 (by
      rcases Int.lt_or_le n 0 with h | h
      · rw [((tqr n).2 h).1]; omega
      · rw [((tqr n).1 h).1]; omega) w
  | succ k ih =>
    intro n hk hn h0 h1 w
    by_cases hq0 : n.tdiv 10 = 0
    · exact dec_base _ n h0 h1 hq0 w
    · have hd := dg_toNat n
      have hb : -9223372036854775808 ≤ n.tdiv 10 ∧ n.tdiv 10 ≤ 9223372036854775807 ∧ (n.tdiv 10).natAbs < 10 ^ (k + 1) := by
        rw [Nat.pow_succ] at hn
        rcases Int.lt_or_le n 0 with h | h
        · rw [((tqr n).2 h).1]; omega
        · rw [((tqr n).1 h).1]; omega
      have hqq : wrap64 (n.tdiv 10) = n.tdiv 10 := w64 _ ⟨hb.1, hb.2.1⟩
      have hI := ih (n.tdiv 10) (by omega) hb.2.2 hb.1 hb.2.1
      rw [← hqq] at hI
      have hI := Aside0.mk hI
      have hne : (wrap64 (n.tdiv 10) != 0) = true := by rw [hqq]; exact bne_iff_ne.mpr hq0
      rw [dec, if_neg hq0]
      have hr := dec_ne k (n.tdiv 10)
      rw [hqq] at hI
      rw [← hqq] at hI
      by_cases hneg : n < 0
      · have hm := ((tqr n).2 hneg).2
        have h := dec_d n (n.tmod 10) (48 + (n.tmod 10).natAbs) (-(n.tmod 10)) (dg n) w hne rfl (w64 _ (by omega)) (by rw [w64 _ (by omega)]; omega) (by rw [hd]; omega) (by simpa using hneg) _ (by rw [hqq]; exact hr) (by rw [hqq]; have := dec_size (k + 1) (n.tdiv 10); omega) hI
        rw [hqq] at h
        exact h
      · have hm := ((tqr n).1 (by omega)).2
        have h := dec_c n (n.tmod 10) (48 + (n.tmod 10).natAbs) (dg n) w hne rfl (by rw [w64 _ (by omega)]; omega) (by rw [hd]; omega) (by simpa using hneg) _ (by rw [hqq]; exact hr) (by rw [hqq]; have := dec_size (k + 1) (n.tdiv 10); omega) hI
        rw [hqq] at h
        exact h
def Decimal.f (a0 : Int) : Option ByteArray := if -9223372036854775808 ≤ a0 ∧ a0 ≤ 9223372036854775807 then some (dec 20 a0) else none
theorem Decimal.calls (a0 : Int) (r : ByteArray) (w : World) (h : Decimal.f a0 = some r) : Calls Tryd.prog 35 #[.int .i64 a0] w fun e w' => e = .returned (.string r) ∧ Below w.heap.size w w' := by
  unfold Decimal.f at h
  split at h
  · rename_i hh
    obtain rfl := Option.some.inj h
    exact dec_calls 19 a0 (by omega) (by omega) hh.1 hh.2 w
  · cases h
end Go.Proofs.YtfmmmojlnfndkaaDoor.Q
