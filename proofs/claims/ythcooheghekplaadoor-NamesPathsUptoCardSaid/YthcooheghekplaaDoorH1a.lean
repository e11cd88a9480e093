/- names.Right: strings.ContainsAny with "/\x00" of whatever text. -/
import Derived.Test.YthcooheghekplaaDoorQ0
import Derived.Lib.IndexAny
import Derived.Lib.AsciiSet
import Derived.Lib.OthersKept
import Derived.Lib.Bytealg
import Derived.Lib.IndexBytes
import Derived.Laws.RangeAny
import Derived.Laws.Runes
import Derived.Laws.Strings3
import Derived.Laws.ResultCell
import Derived.Deep.WholeRow
import Derived.WalkMore
import Derived.Deep.RegionLaw
namespace Go.Proofs.YthcooheghekplaaDoor.Q
open Go.RowKit Go.Proofs.YthcooheghekplaaDoorW.PrintWords Go.Proofs.YthcooheghekplaaDoorW.PrintLast Go.Proofs.YthcooheghekplaaDoorW.PrintMore
set_option linter.unusedVariables false
set_option linter.unusedSimpArgs false

/-- The two chars. -/
def two2 : ByteArray := ⟨#[47, 0]⟩
/-- Has a text one of them? -/
def hasBad (l : List UInt8) : Bool := l.any fun b => b == 47 || b == 0
def NoBad (s : ByteArray) (i : Nat) : Prop := ∀ j (hj : j < s.size), j < i → (s[j]'hj) ≠ 47 ∧ (s[j]'hj) ≠ 0
theorem NoBad.zero (s : ByteArray) : NoBad s 0 := fun _ _ h => absurd h (Nat.not_lt_zero _)
theorem NoBad.succ {s : ByteArray} {i : Nat} (h : NoBad s i) (hi : i < s.size) (h1 : s[i]'hi ≠ 47) (h2 : s[i]'hi ≠ 0) : NoBad s (i + 1) := by
  intro j hj hl
  rcases Nat.lt_or_ge j i with h3 | h3
  · exact h j hj h3
  · obtain rfl : j = i := by omega
    exact ⟨h1, h2⟩
theorem NoBad.high {s : ByteArray} {i d : Nat} (h : NoBad s i) (hd : ∀ j (hj : j < s.size), i ≤ j → j < i + d → 128 ≤ (s[j]'hj).toNat) : NoBad s (i + d) := by
  intro j hj hl
  rcases Nat.lt_or_ge j i with h3 | h3
  · exact h j hj h3
  · have := hd j hj h3 hl
    refine ⟨fun e => ?_, fun e => ?_⟩ <;> rw [e] at this <;> exact absurd this (by decide)
theorem NoBad.all {s : ByteArray} (h : NoBad s s.size) : hasBad s.data.toList = false := by
  unfold hasBad
  rw [List.any_eq_false]
  intro b hb
  obtain ⟨j, hj, rfl⟩ := List.mem_iff_getElem.1 hb
  have hj' : j < s.size := by simpa using hj
  have := h j hj' hj'
  have e : (s[j]'hj') = s.data.toList[j] := by simp [ByteArray.getElem_eq_getElem_data]
  rw [e] at this
  simp only [Array.getElem_toList] at this
  simp [this.1, this.2]
theorem hasBad_at {s : ByteArray} {i : Nat} (hi : i < s.size) (h : s[i]'hi = 47 ∨ s[i]'hi = 0) : hasBad s.data.toList = true := by
  unfold hasBad
  rw [List.any_eq_true]
  refine ⟨s[i]'hi, ?_, ?_⟩
  · rw [ByteArray.getElem_eq_getElem_data]
    simp
  · rcases h with h | h <;> simp [h]

theorem decode_end (s : ByteArray) (pos : Nat) (h : pos < s.size) : pos + (Utf8.decode s pos).2 ≤ s.size := by
  simp only [Utf8.decode]
  repeat' split
  all_goals simp_all
  all_goals omega
theorem get_lt (s : ByteArray) (j : Nat) (h : j < s.size) : s.get! j = s[j]'h := by simpa using get_at s j h
theorem decode_skip (s : ByteArray) (pos : Nat) (h : pos < s.size) (ha : 128 ≤ (s[pos]'h).toNat) (j : Nat) (hj : j < s.size) (h1 : pos ≤ j) (h2 : j < pos + (Utf8.decode s pos).2) : 128 ≤ (s[j]'hj).toNat := by
  rcases Nat.eq_or_lt_of_le h1 with rfl | h3
  · exact ha
  · have hc : ∀ k, pos + k = j → (s.get! (pos + k)).toNat / 64 = 2 → 128 ≤ (s[j]'hj).toNat := by
      intro k hk hk2
      subst hk
      rw [get_lt s _ hj] at hk2
      omega
    revert h2
    simp only [Utf8.decode]
    intro h2
    have hd : ∀ n, (n = 1 ∨ (n = 2 ∧ (s.get! (pos + 1)).toNat / 64 = 2) ∨ (n = 3 ∧ (s.get! (pos + 1)).toNat / 64 = 2 ∧ (s.get! (pos + 2)).toNat / 64 = 2) ∨ (n = 4 ∧ (s.get! (pos + 1)).toNat / 64 = 2 ∧ (s.get! (pos + 2)).toNat / 64 = 2 ∧ (s.get! (pos + 3)).toNat / 64 = 2)) → j < pos + n → 128 ≤ (s[j]'hj).toNat := by
      intro n hn hl
      have hj3 : j = pos + 1 ∨ j = pos + 2 ∨ j = pos + 3 := by omega
      rcases hj3 with e | e | e
      · exact hc 1 e.symm (by omega)
      · exact hc 2 e.symm (by omega)
      · exact hc 3 e.symm (by omega)
    refine hd _ ?_ h2
    repeat' split
    all_goals simp_all

set_option maxHeartbeats 1000000 in
set_option maxRecDepth 100000 in
theorem sliteIndexByte_calls (s : ByteArray) (c : Int) (w : World) : Calls Tryd.prog 62 #[.string s, .int .u8 c] w fun e w' => e = .returned (.int .i64 (Lib.indexByte s.data.toList c.toNat.toUInt8)) ∧ w' = w := by
  go_enter Tryd.func62, Tryd.ntmps62
  go_wp2
  rw [run_callFunc_extern Tryd.func82 (by kernel_rfl) (by kernel_rfl) (by kernel_rfl) (e := Extern.BytealgIndexByte.indexByte) (by kernel_rfl), Lib.run_indexByteString]
  simp only [Result.andThen]
  rw [Oper.upon_value]
  go_wp2
  go_ret
  exact ⟨rfl, rfl⟩
set_option maxHeartbeats 1000000 in
theorem indexByte_calls (s : ByteArray) (c : Int) (w : World) : Calls Tryd.prog 67 #[.string s, .int .u8 c] w fun e w' => e = .returned (.int .i64 (Lib.indexByte s.data.toList c.toNat.toUInt8)) ∧ w' = w := by
  go_enter Tryd.func67, Tryd.ntmps67
  go_wp2_with (go_at_call 62; refine (sliteIndexByte_calls _ _ _).mono ?_; rintro e w' ⟨rfl, rfl⟩)
  go_ret
  exact ⟨rfl, rfl⟩
theorem validRune_calls (r : Int) (w : World) (h0 : 128 ≤ r) (h1 : r ≤ 2147483647) : Calls Tryd.prog 68 #[.int .i32 r] w fun e w' => e = .returned (.bool (Utf8.valid r)) ∧ w' = w := by
  have d0 : decide ((0 : Int) ≤ r) = true := decide_eq_true (by omega)
  by_cases h2 : r < 55296
  · have d1 : decide (r < 55296) = true := decide_eq_true h2
    go_enter Tryd.func68, Tryd.ntmps68
    go_wp2
    go_ret
    exact ⟨by simp [Utf8.valid, d0, d1], rfl⟩
  · have d1 : decide (r < 55296) = false := decide_eq_false h2
    by_cases h3 : 57343 < r
    · have d2 : decide (57343 < r) = true := decide_eq_true h3
      by_cases h4 : r ≤ 1114111
      · have d3 : decide (r ≤ 1114111) = true := decide_eq_true h4
        go_enter Tryd.func68, Tryd.ntmps68
        go_wp2
        go_ret
        refine ⟨?_, rfl⟩
        simp [Utf8.valid]
        omega
      · have d3 : decide (r ≤ 1114111) = false := decide_eq_false h4
        go_enter Tryd.func68, Tryd.ntmps68
        go_wp2
        go_ret
        refine ⟨?_, rfl⟩
        simp [Utf8.valid]
        omega
    · have d2 : decide (57343 < r) = false := decide_eq_false h3
      go_enter Tryd.func68, Tryd.ntmps68
      go_wp2
      go_ret
      refine ⟨?_, rfl⟩
      simp [Utf8.valid]
      omega

set_option maxHeartbeats 2000000 in
set_option maxRecDepth 1000000 in
theorem rune_low (s : ByteArray) (r : Int) (w : World) (h0 : 0 ≤ r) (h1 : r < 128) : Calls Tryd.prog 53 #[.string s, .int .i32 r] w fun e w' => e = .returned (.int .i64 (Lib.indexByte s.data.toList r.toNat.toUInt8)) ∧ w' = w := by
  go_enter Tryd.func53, Tryd.ntmps53
  go_wp2_with (go_at_call 67; refine (indexByte_calls _ _ _).mono ?_; rintro e w' ⟨rfl, hw⟩; rw [hw])
  go_ret
  exact ⟨rfl, rfl⟩
set_option maxHeartbeats 2000000 in
set_option maxRecDepth 1000000 in
theorem rune_bad (s : ByteArray) (r : Int) (w : World) (h0 : 128 ≤ r) (h1 : r ≤ 2147483647) (h2 : r ≠ 65533) (hv : Utf8.valid r = false) : Calls Tryd.prog 53 #[.string s, .int .i32 r] w fun e w' => e = .returned (.int .i64 (-1)) ∧ w' = w := by
  have n1 : (r == 65533) = false := beq_eq_false_iff_ne.2 h2
  go_enter Tryd.func53, Tryd.ntmps53
  go_wp2_with (go_at_call 68; refine (validRune_calls r _ h0 h1).mono ?_; rintro e w' ⟨rfl, hw⟩; rw [hw, hv])
  go_ret
  exact ⟨rfl, rfl⟩
set_option maxHeartbeats 2000000 in
set_option maxRecDepth 1000000 in
theorem rune_error (w : World) : Calls Tryd.prog 53 #[.string two2, .int .i32 65533] w fun e w' => e = .returned (.int .i64 (-1)) ∧ Below w.heap.size w w' := by
  unfold two2
  go_enter Tryd.func53, Tryd.ntmps53
  go_wp2
  go_loopg [5, 6] 2 (fun g _ _ wx => ∃ i : Nat, i + g = 2 ∧ wx = w.iter ⟨#[47, 0]⟩ i)
  case atStart => exact ⟨0, by omega, rfl⟩
  case round =>
    obtain ⟨i, hig, rfl⟩ := hrel
    cases gk with
    | zero =>
      obtain rfl : i = 2 := by omega
      have hnx := run_next_end (P := Tryd.prog) w ⟨#[47, 0]⟩ 2
      simp only [show ¬ 2 < (⟨#[47, 0]⟩ : ByteArray).size from by decide, not_false_eq_true, forall_const] at hnx
      go_wp2
      go_ret
      exact ⟨rfl, (Below.refl _ _).alloc (Nat.le_refl _) _⟩
    | succ g =>
      have hi : i = 0 ∨ i = 1 := by omega
      rcases hi with rfl | rfl
      · have hnx := fun ty => run_next_ascii (P := Tryd.prog) w ⟨#[47, 0]⟩ 0 ty (by decide) (by decide)
        simp only [show ((⟨#[47, 0]⟩ : ByteArray)[0]'(by decide)).toNat = 47 from rfl] at hnx
        go_wp2
        go_roundg 1
        case measure => omega
        case rel => exact ⟨1, by omega, rfl⟩
      · have hnx := fun ty => run_next_ascii (P := Tryd.prog) w ⟨#[47, 0]⟩ 1 ty (by decide) (by decide)
        simp only [show ((⟨#[47, 0]⟩ : ByteArray)[1]'(by decide)).toNat = 0 from rfl] at hnx
        go_wp2
        go_roundg 0
        case measure => omega
        case rel => exact ⟨2, by omega, rfl⟩

theorem encode_last (r : Int) (hv : Utf8.valid r = true) (h : 128 ≤ r) : 2 ≤ (Utf8.encode r).size ∧ (Utf8.encode r).size ≤ 4 ∧ ∀ h2 : 1 < (Utf8.encode r).size, (Utf8.encode r).size = 2 → 128 ≤ ((Utf8.encode r)[1]'h2).toNat := by
  obtain ⟨h1, h2, h3⟩ := encode_facts r hv h
  refine ⟨h1, h2, fun h4 h5 => ?_⟩
  have := h3 (by omega)
  simpa [h5] using this
set_option maxHeartbeats 4000000 in
set_option maxRecDepth 1000000 in
theorem rune_high2 (r : Int) (w : World) (h0 : 128 ≤ r) (h1 : r ≤ 2147483647) (h2 : r ≠ 65533) (hv : Utf8.valid r = true) (h4 : (Utf8.encode r).size = 2) : Calls Tryd.prog 53 #[.string two2, .int .i32 r] w fun e w' => e = .returned (.int .i64 (-1)) ∧ Below w.heap.size w w' := by
  have n1 : (r == 65533) = false := beq_eq_false_iff_ne.2 h2
  have hz := (encode_last r hv h0).2.2 (by omega) h4
  unfold two2
  obtain ⟨rs, hrs⟩ : ∃ rs, Utf8.encode r = rs := ⟨_, rfl⟩
  obtain ⟨x, hx⟩ : ∃ x : UInt8, (Utf8.encode r)[1]'(by omega) = x := ⟨_, rfl⟩
  rw [hx] at hz
  simp only [hrs] at h4 hx
  have hw2 : IntKind.i64.wrap 2 = 2 := by decide
  have hcmp : ((((⟨#[47, 0]⟩ : ByteArray)[1]'(by decide)).toNat : Int) != (x.toNat : Int)) = true := by
    show ((0 : Int) != (x.toNat : Int)) = true
    rw [bne_iff_ne]
    omega
  go_enter Tryd.func53, Tryd.ntmps53
  go_wp2_with (go_at_call 68; refine (validRune_calls r _ h0 h1).mono ?_; rintro e w' ⟨rfl, hw⟩; rw [hw, hv])
  go_step3
  go_wp2
  go_loopg [9] 0 (fun g s9 wx => s9 = .int .i64 1 ∧ wx = w)
  case atStart => exact ⟨by first | rfl | (simp [h4]; done) | (simp [h4, wrap64]; done), by first | exact hw | rfl⟩
  case round =>
    obtain ⟨rfl, rfl⟩ := hrel
    go_wp2
    go_step3
    go_wp2
    go_region
    all_goals go_wp2
    all_goals
      go_region_law (
        refine goes_ Tryd.func67 (by kernel_rfl) rfl #[.string ByteArray.empty, .int .u8 (x.toNat : Int)] (by rfl) rfl rfl (by first | rfl | (simp [Act.eval]; done)) ?_
        refine (indexByte_calls _ _ _).mono ?_
        rintro e w1 ⟨rfl, hw1⟩
        refine ⟨_, rfl, ?_⟩
        rw [hw1])
    all_goals go_wp2
    all_goals
      rw [Exit.noGoto_ret]
      (try simp only [Exit.inBlock, Exit.then])
      rw [Exit.noGoto_ret]
      go_ret
      exact ⟨rfl, by repeat (first | exact Below.refl _ _ | apply below_drew1)⟩
set_option maxHeartbeats 4000000 in
set_option maxRecDepth 1000000 in
theorem rune_high3 (r : Int) (m : Nat) (w : World) (h0 : 128 ≤ r) (h1 : r ≤ 2147483647) (h2 : r ≠ 65533) (hv : Utf8.valid r = true) (h4 : (Utf8.encode r).size = m + 3) (hm : m ≤ 1) : Calls Tryd.prog 53 #[.string two2, .int .i32 r] w fun e w' => e = .returned (.int .i64 (-1)) ∧ w' = w := by
  have n1 : (r == 65533) = false := beq_eq_false_iff_ne.2 h2
  unfold two2
  obtain ⟨rs, hrs⟩ : ∃ rs, Utf8.encode r = rs := ⟨_, rfl⟩
  simp only [hrs] at h4
  have hm2 : ¬ ((m : Int) + 2 < 2) := by omega
  go_enter Tryd.func53, Tryd.ntmps53
  go_wp2_with (go_at_call 68; refine (validRune_calls r _ h0 h1).mono ?_; rintro e w' ⟨rfl, hw⟩; rw [hw, hv])
  go_step3
  go_wp2
  go_loopg [9] 0 (fun g s9 wx => s9 = .int .i64 ((m : Int) + 2) ∧ wx = w)
  case atStart => exact ⟨by first | rfl | (simp [h4]; done) | (simp [h4, wrap64]; omega), by first | exact hw | rfl⟩
  case round =>
    obtain ⟨rfl, rfl⟩ := hrel
    go_wp2
    rw [Exit.noGoto_ret]
    go_ret
    exact ⟨rfl, rfl⟩

end Go.Proofs.YthcooheghekplaaDoor.Q
