/- node.Kind, a walk a way. -/
import Derived.Test.YtakchpeohmkpkaaK2
import Derived.Test.YtakchpeohmkpkaaH1
import Derived.Test.YtakchpeohmkpkaaQ5
namespace Go.Proofs.Ytakchpeohmkpkaa.Q
open Go.RowKit Go.Proofs.YtakchpeohmkpkaaW.PrintWords Go.Proofs.YtakchpeohmkpkaaW.PrintLast Go.Proofs.YtakchpeohmkpkaaW.PrintMore
set_option linter.unusedVariables false
set_option linter.unusedSimpArgs false
/-- The number of two bytes, the higher one first. -/
def num2 (s : ByteArray) : Int := bt s 0 * 256 + bt s 1
def goodInoB (a : Int) : Bool := decide (1 ≤ a) && decide (a ≤ 4096)
def goodBlockB (a : Int) : Bool := decide (0 ≤ a) && decide (a < 128)
theorem or_i64 (h l : Int) (hh : 0 ≤ h ∧ h < 256) (hl : 0 ≤ l ∧ l < 256) : Go.bits .or .i64 (h * 256) l = h * 256 + l := by
  obtain ⟨h, rfl⟩ := Int.eq_ofNat_of_zero_le hh.1
  obtain ⟨l, rfl⟩ := Int.eq_ofNat_of_zero_le hl.1
  have hor : (h * 256) ||| l = h * 256 + l := by
    have := Nat.two_pow_add_eq_or_of_lt (i := 8) (b := l) (by omega) h
    simp only [Nat.reducePow] at this
    rw [Nat.mul_comm h 256]
    omega
  have hx : (h * 256) ||| l < 65536 := by rw [hor]; omega
  have h1 : (BitVec.ofInt 64 ((h : Int) * 256)).toNat = h * 256 := by
    rw [show ((h : Int) * 256) = ((h * 256 : Nat) : Int) from by simp, BitVec.ofInt_natCast, BitVec.toNat_ofNat]; exact Nat.mod_eq_of_lt (by omega)
  have h2 : (BitVec.ofInt 64 (l : Int)).toNat = l := by
    rw [BitVec.ofInt_natCast, BitVec.toNat_ofNat]; exact Nat.mod_eq_of_lt (by omega)
  show IntKind.i64.wrap ((BitVec.ofInt 64 ((h : Int) * 256) ||| BitVec.ofInt 64 (l : Int)).toNat : Int) = _
  rw [BitVec.toNat_or, h1, h2, hor, IntKind.wrap_i64]
  omega
theorem num_f (s : ByteArray) (h : 2 ≤ s.size) : node_number.f s = some (num2 s) := by
  unfold node_number.f num2
  rw [if_pos (by omega), if_pos (by omega)]
  have r0 := bt_range s 0
  have r1 := bt_range s 1
  rw [show wrap64 (bt s 0) = bt s 0 from by unfold wrap64; omega, show wrap64 (bt s 0 * 256) = bt s 0 * 256 from by unfold wrap64; omega, show wrap64 (bt s 1) = bt s 1 from by unfold wrap64; omega, or_i64 _ _ (by omega) (by omega)]
theorem num_calls (s : ByteArray) (w : World) (h : 2 ≤ s.size) : Calls Try.prog 55 #[.string s] w fun e w' => e = .returned (.int .i64 (num2 s)) ∧ Drawn0 w w' := node_number.calls s _ w (num_f s h)
theorem good_calls (a : Int) (w : World) : Calls Try.prog 56 #[.int .i64 a] w fun e w' => e = .returned (.bool (goodInoB a)) ∧ Drawn0 w w' := by
  refine node_goodIno.calls a _ w ?_
  unfold node_goodIno.f goodInoB
  by_cases h : a ≥ 1 <;> simp [h] <;> omega
theorem blk_calls (a : Int) (w : World) : Calls Try.prog 57 #[.int .i64 a] w fun e w' => e = .returned (.bool (goodBlockB a)) ∧ Drawn0 w w' := by
  refine node_goodBlock.calls a _ w ?_
  unfold node_goodBlock.f goodBlockB
  by_cases h : a ≥ 0 <;> simp [h] <;> omega
set_option maxHeartbeats 8000000 in
set_option maxRecDepth 100000 in
theorem kind_s (s : ByteArray) (w : World) (h3 : s.size < 3) : Calls Try.prog 30 #[.string s] w fun e w' => e = .returned (.tuple #[.int .i64 0, .int .i64 0, .string ⟨#[]⟩, .int .i64 0]) ∧ Below w.heap.size w w' := by
  have a1 : decide ((s.size : Int) < 3) = true := decide_eq_true (by omega)
  have a2 : decide (s.size < 3) = true := decide_eq_true (by omega)
  go_enter Try.func30, Try.ntmps30
  go_wp2
  refine bodyPost_ret (results_list (rs := [.tmp 2, .tmp 3, .tmp 4, .tmp 5]) rfl (by simp) (.tmp (.tmp (.tmp (.tmp .nil))))) rfl ?_
  exact ⟨rfl, Below.refl _ _⟩
set_option maxHeartbeats 8000000 in
set_option maxRecDepth 100000 in
theorem kind_o1 (s rest pre : ByteArray) (e : Int) (w : World) (h3 : 3 ≤ s.size) (hrest : s.extract 3 s.size = rest) (hpre : s.extract 0 3 = pre) (hr2 : 2 ≤ rest.size)
    (f0 : (num2 s == 0) = true) (f1 : (num2 s != 0) = false) (f2 : (pre.toList == ([0, 0, 4] : List UInt8)) = true) (f3 : (pre.toList != ([0, 0, 4] : List UInt8)) = false) (f4 : ((rest.size : Int) == 2) = true) (f5 : ((rest.size : Int) != 2) = false) (f6 : (rest.size == 2) = true) (f7 : (rest.size != 2) = false) (f8 : goodInoB (num2 rest) = true) : Calls Try.prog 30 #[.string s] w fun e w' => e = .returned (.tuple #[.int .i64 4, .int .i64 (num2 rest), .string ⟨#[]⟩, .int .i64 0]) ∧ Below w.heap.size w w' := by
  have h2 : 2 ≤ s.size := by omega
  have a1 : decide ((s.size : Int) < 3) = false := decide_eq_false (by omega)
  have a2 : decide (s.size < 3) = false := decide_eq_false (by omega)
  have b0 : (3 ≤ (s.size : Int)) = True := eq_true (by omega)
  have b1 : decide (3 ≤ (s.size : Int)) = true := decide_eq_true (by omega)
  have b2 : (2 < s.size) = True := eq_true (by omega)
  have b3 : (2 < (s.size : Int)) = True := eq_true (by omega)
  have hx : ∀ h : 2 < s.size, ((s[2]'h).toNat : Int) = bt s 2 := bt_at s 2
  obtain ⟨r0, r1⟩ := bt_range s 2
  go_enter Try.func30, Try.ntmps30
  go_wp2_with (first
    | (go_at_call 55; (with_reducible refine (num_calls _ _ (by assumption)).mono ?_); rintro e w' ⟨rfl, ⟨nd, rfl⟩⟩)
    | (go_at_call 56; (with_reducible refine (good_calls _ _).mono ?_); rintro e w' ⟨rfl, ⟨nd, rfl⟩⟩)
    | (go_at_call 57; (with_reducible refine (blk_calls _ _).mono ?_); rintro e w' ⟨rfl, ⟨nd, rfl⟩⟩)
    | (go_at_call 31; (with_reducible refine (names_Right.calls rest e _ HE.out).mono ?_); rintro e w1 ⟨rfl, hb1⟩))
  go_quiet ((go_at_call 55; exact Calls.quiet_of ((num_calls _ _ (by assumption)).mono fun _ _ ⟨he_, hd_⟩ => ⟨he_, hd_.out⟩)))
  go_wp2_with (first
    | (go_at_call 55; (with_reducible refine (num_calls _ _ (by assumption)).mono ?_); rintro e w' ⟨rfl, ⟨nd, rfl⟩⟩)
    | (go_at_call 56; (with_reducible refine (good_calls _ _).mono ?_); rintro e w' ⟨rfl, ⟨nd, rfl⟩⟩)
    | (go_at_call 57; (with_reducible refine (blk_calls _ _).mono ?_); rintro e w' ⟨rfl, ⟨nd, rfl⟩⟩)
    | (go_at_call 31; (with_reducible refine (names_Right.calls rest e _ HE.out).mono ?_); rintro e w1 ⟨rfl, hb1⟩))
  refine bodyPost_ret (results_list (rs := [.tmp 2, .tmp 3, .tmp 4, .tmp 5]) rfl (by simp) (.tmp (.tmp (.tmp (.tmp .nil))))) rfl ?_
  exact ⟨rfl, by repeat (first | exact Below.refl _ _ | apply pw_below_drewN | apply below_drew1)⟩
set_option maxHeartbeats 8000000 in
set_option maxRecDepth 100000 in
theorem kind_o2 (s rest pre : ByteArray) (e : Int) (w : World) (h3 : 3 ≤ s.size) (hrest : s.extract 3 s.size = rest) (hpre : s.extract 0 3 = pre) (hr2 : 2 ≤ rest.size)
    (f0 : (num2 s == 0) = true) (f1 : (num2 s != 0) = false) (f2 : goodInoB (num2 s) = false) (f3 : (pre.toList == ([0, 0, 4] : List UInt8)) = true) (f4 : (pre.toList != ([0, 0, 4] : List UInt8)) = false) (f5 : ((rest.size : Int) == 2) = true) (f6 : ((rest.size : Int) != 2) = false) (f7 : (rest.size == 2) = true) (f8 : (rest.size != 2) = false) (f9 : goodInoB (num2 rest) = false) : Calls Try.prog 30 #[.string s] w fun e w' => e = .returned (.tuple #[.int .i64 0, .int .i64 0, .string ⟨#[]⟩, .int .i64 0]) ∧ Below w.heap.size w w' := by
  have h2 : 2 ≤ s.size := by omega
  have a1 : decide ((s.size : Int) < 3) = false := decide_eq_false (by omega)
  have a2 : decide (s.size < 3) = false := decide_eq_false (by omega)
  have b0 : (3 ≤ (s.size : Int)) = True := eq_true (by omega)
  have b1 : decide (3 ≤ (s.size : Int)) = true := decide_eq_true (by omega)
  have b2 : (2 < s.size) = True := eq_true (by omega)
  have b3 : (2 < (s.size : Int)) = True := eq_true (by omega)
  have hx : ∀ h : 2 < s.size, ((s[2]'h).toNat : Int) = bt s 2 := bt_at s 2
  obtain ⟨r0, r1⟩ := bt_range s 2
  go_enter Try.func30, Try.ntmps30
  go_wp2_with (first
    | (go_at_call 55; (with_reducible refine (num_calls _ _ (by assumption)).mono ?_); rintro e w' ⟨rfl, ⟨nd, rfl⟩⟩)
    | (go_at_call 56; (with_reducible refine (good_calls _ _).mono ?_); rintro e w' ⟨rfl, ⟨nd, rfl⟩⟩)
    | (go_at_call 57; (with_reducible refine (blk_calls _ _).mono ?_); rintro e w' ⟨rfl, ⟨nd, rfl⟩⟩)
    | (go_at_call 31; (with_reducible refine (names_Right.calls rest e _ HE.out).mono ?_); rintro e w1 ⟨rfl, hb1⟩))
  go_quiet ((go_at_call 55; exact Calls.quiet_of ((num_calls _ _ (by assumption)).mono fun _ _ ⟨he_, hd_⟩ => ⟨he_, hd_.out⟩)))
  go_wp2_with (first
    | (go_at_call 55; (with_reducible refine (num_calls _ _ (by assumption)).mono ?_); rintro e w' ⟨rfl, ⟨nd, rfl⟩⟩)
    | (go_at_call 56; (with_reducible refine (good_calls _ _).mono ?_); rintro e w' ⟨rfl, ⟨nd, rfl⟩⟩)
    | (go_at_call 57; (with_reducible refine (blk_calls _ _).mono ?_); rintro e w' ⟨rfl, ⟨nd, rfl⟩⟩)
    | (go_at_call 31; (with_reducible refine (names_Right.calls rest e _ HE.out).mono ?_); rintro e w1 ⟨rfl, hb1⟩))
  refine bodyPost_ret (results_list (rs := [.tmp 2, .tmp 3, .tmp 4, .tmp 5]) rfl (by simp) (.tmp (.tmp (.tmp (.tmp .nil))))) rfl ?_
  exact ⟨rfl, by repeat (first | exact Below.refl _ _ | apply pw_below_drewN | apply below_drew1)⟩
set_option maxHeartbeats 8000000 in
set_option maxRecDepth 100000 in
theorem kind_o3 (s rest pre : ByteArray) (e : Int) (w : World) (h3 : 3 ≤ s.size) (hrest : s.extract 3 s.size = rest) (hpre : s.extract 0 3 = pre)
    (f0 : (num2 s == 0) = true) (f1 : (num2 s != 0) = false) (f2 : goodInoB (num2 s) = false) (f3 : (pre.toList == ([0, 0, 4] : List UInt8)) = true) (f4 : (pre.toList != ([0, 0, 4] : List UInt8)) = false) (f5 : ((rest.size : Int) == 2) = false) (f6 : ((rest.size : Int) != 2) = true) (f7 : (rest.size == 2) = false) (f8 : (rest.size != 2) = true) : Calls Try.prog 30 #[.string s] w fun e w' => e = .returned (.tuple #[.int .i64 0, .int .i64 0, .string ⟨#[]⟩, .int .i64 0]) ∧ Below w.heap.size w w' := by
  have h2 : 2 ≤ s.size := by omega
  have a1 : decide ((s.size : Int) < 3) = false := decide_eq_false (by omega)
  have a2 : decide (s.size < 3) = false := decide_eq_false (by omega)
  have b0 : (3 ≤ (s.size : Int)) = True := eq_true (by omega)
  have b1 : decide (3 ≤ (s.size : Int)) = true := decide_eq_true (by omega)
  have b2 : (2 < s.size) = True := eq_true (by omega)
  have b3 : (2 < (s.size : Int)) = True := eq_true (by omega)
  have hx : ∀ h : 2 < s.size, ((s[2]'h).toNat : Int) = bt s 2 := bt_at s 2
  obtain ⟨r0, r1⟩ := bt_range s 2
  go_enter Try.func30, Try.ntmps30
  go_wp2_with (first
    | (go_at_call 55; (with_reducible refine (num_calls _ _ (by assumption)).mono ?_); rintro e w' ⟨rfl, ⟨nd, rfl⟩⟩)
    | (go_at_call 56; (with_reducible refine (good_calls _ _).mono ?_); rintro e w' ⟨rfl, ⟨nd, rfl⟩⟩)
    | (go_at_call 57; (with_reducible refine (blk_calls _ _).mono ?_); rintro e w' ⟨rfl, ⟨nd, rfl⟩⟩)
    | (go_at_call 31; (with_reducible refine (names_Right.calls rest e _ HE.out).mono ?_); rintro e w1 ⟨rfl, hb1⟩))
  go_quiet ((go_at_call 55; exact Calls.quiet_of ((num_calls _ _ (by assumption)).mono fun _ _ ⟨he_, hd_⟩ => ⟨he_, hd_.out⟩)))
  go_wp2_with (first
    | (go_at_call 55; (with_reducible refine (num_calls _ _ (by assumption)).mono ?_); rintro e w' ⟨rfl, ⟨nd, rfl⟩⟩)
    | (go_at_call 56; (with_reducible refine (good_calls _ _).mono ?_); rintro e w' ⟨rfl, ⟨nd, rfl⟩⟩)
    | (go_at_call 57; (with_reducible refine (blk_calls _ _).mono ?_); rintro e w' ⟨rfl, ⟨nd, rfl⟩⟩)
    | (go_at_call 31; (with_reducible refine (names_Right.calls rest e _ HE.out).mono ?_); rintro e w1 ⟨rfl, hb1⟩))
  refine bodyPost_ret (results_list (rs := [.tmp 2, .tmp 3, .tmp 4, .tmp 5]) rfl (by simp) (.tmp (.tmp (.tmp (.tmp .nil))))) rfl ?_
  exact ⟨rfl, by repeat (first | exact Below.refl _ _ | apply pw_below_drewN | apply below_drew1)⟩
set_option maxHeartbeats 8000000 in
set_option maxRecDepth 100000 in
theorem kind_o4 (s rest pre : ByteArray) (e : Int) (w : World) (h3 : 3 ≤ s.size) (hrest : s.extract 3 s.size = rest) (hpre : s.extract 0 3 = pre)
    (f0 : (num2 s == 0) = true) (f1 : (num2 s != 0) = false) (f2 : goodInoB (num2 s) = false) (f3 : (pre.toList == ([0, 0, 4] : List UInt8)) = false) (f4 : (pre.toList != ([0, 0, 4] : List UInt8)) = true) : Calls Try.prog 30 #[.string s] w fun e w' => e = .returned (.tuple #[.int .i64 0, .int .i64 0, .string ⟨#[]⟩, .int .i64 0]) ∧ Below w.heap.size w w' := by
  have h2 : 2 ≤ s.size := by omega
  have a1 : decide ((s.size : Int) < 3) = false := decide_eq_false (by omega)
  have a2 : decide (s.size < 3) = false := decide_eq_false (by omega)
  have b0 : (3 ≤ (s.size : Int)) = True := eq_true (by omega)
  have b1 : decide (3 ≤ (s.size : Int)) = true := decide_eq_true (by omega)
  have b2 : (2 < s.size) = True := eq_true (by omega)
  have b3 : (2 < (s.size : Int)) = True := eq_true (by omega)
  have hx : ∀ h : 2 < s.size, ((s[2]'h).toNat : Int) = bt s 2 := bt_at s 2
  obtain ⟨r0, r1⟩ := bt_range s 2
  go_enter Try.func30, Try.ntmps30
  go_wp2_with (first
    | (go_at_call 55; (with_reducible refine (num_calls _ _ (by assumption)).mono ?_); rintro e w' ⟨rfl, ⟨nd, rfl⟩⟩)
    | (go_at_call 56; (with_reducible refine (good_calls _ _).mono ?_); rintro e w' ⟨rfl, ⟨nd, rfl⟩⟩)
    | (go_at_call 57; (with_reducible refine (blk_calls _ _).mono ?_); rintro e w' ⟨rfl, ⟨nd, rfl⟩⟩)
    | (go_at_call 31; (with_reducible refine (names_Right.calls rest e _ HE.out).mono ?_); rintro e w1 ⟨rfl, hb1⟩))
  go_quiet ((go_at_call 55; exact Calls.quiet_of ((num_calls _ _ (by assumption)).mono fun _ _ ⟨he_, hd_⟩ => ⟨he_, hd_.out⟩)))
  go_wp2_with (first
    | (go_at_call 55; (with_reducible refine (num_calls _ _ (by assumption)).mono ?_); rintro e w' ⟨rfl, ⟨nd, rfl⟩⟩)
    | (go_at_call 56; (with_reducible refine (good_calls _ _).mono ?_); rintro e w' ⟨rfl, ⟨nd, rfl⟩⟩)
    | (go_at_call 57; (with_reducible refine (blk_calls _ _).mono ?_); rintro e w' ⟨rfl, ⟨nd, rfl⟩⟩)
    | (go_at_call 31; (with_reducible refine (names_Right.calls rest e _ HE.out).mono ?_); rintro e w1 ⟨rfl, hb1⟩))
  refine bodyPost_ret (results_list (rs := [.tmp 2, .tmp 3, .tmp 4, .tmp 5]) rfl (by simp) (.tmp (.tmp (.tmp (.tmp .nil))))) rfl ?_
  exact ⟨rfl, by repeat (first | exact Below.refl _ _ | apply pw_below_drewN | apply below_drew1)⟩
set_option maxHeartbeats 8000000 in
set_option maxRecDepth 100000 in
theorem kind_b1 (s rest pre : ByteArray) (e : Int) (w : World) (h3 : 3 ≤ s.size) (hrest : s.extract 3 s.size = rest) (hpre : s.extract 0 3 = pre)
    (f0 : (num2 s == 0) = false) (f1 : (num2 s != 0) = true) (f2 : goodInoB (num2 s) = false) : Calls Try.prog 30 #[.string s] w fun e w' => e = .returned (.tuple #[.int .i64 0, .int .i64 0, .string ⟨#[]⟩, .int .i64 0]) ∧ Below w.heap.size w w' := by
  have h2 : 2 ≤ s.size := by omega
  have a1 : decide ((s.size : Int) < 3) = false := decide_eq_false (by omega)
  have a2 : decide (s.size < 3) = false := decide_eq_false (by omega)
  have b0 : (3 ≤ (s.size : Int)) = True := eq_true (by omega)
  have b1 : decide (3 ≤ (s.size : Int)) = true := decide_eq_true (by omega)
  have b2 : (2 < s.size) = True := eq_true (by omega)
  have b3 : (2 < (s.size : Int)) = True := eq_true (by omega)
  have hx : ∀ h : 2 < s.size, ((s[2]'h).toNat : Int) = bt s 2 := bt_at s 2
  obtain ⟨r0, r1⟩ := bt_range s 2
  go_enter Try.func30, Try.ntmps30
  go_wp2_with (first
    | (go_at_call 55; (with_reducible refine (num_calls _ _ (by assumption)).mono ?_); rintro e w' ⟨rfl, ⟨nd, rfl⟩⟩)
    | (go_at_call 56; (with_reducible refine (good_calls _ _).mono ?_); rintro e w' ⟨rfl, ⟨nd, rfl⟩⟩)
    | (go_at_call 57; (with_reducible refine (blk_calls _ _).mono ?_); rintro e w' ⟨rfl, ⟨nd, rfl⟩⟩)
    | (go_at_call 31; (with_reducible refine (names_Right.calls rest e _ HE.out).mono ?_); rintro e w1 ⟨rfl, hb1⟩))
  go_quiet ((go_at_call 55; exact Calls.quiet_of ((num_calls _ _ (by assumption)).mono fun _ _ ⟨he_, hd_⟩ => ⟨he_, hd_.out⟩)))
  go_wp2_with (first
    | (go_at_call 55; (with_reducible refine (num_calls _ _ (by assumption)).mono ?_); rintro e w' ⟨rfl, ⟨nd, rfl⟩⟩)
    | (go_at_call 56; (with_reducible refine (good_calls _ _).mono ?_); rintro e w' ⟨rfl, ⟨nd, rfl⟩⟩)
    | (go_at_call 57; (with_reducible refine (blk_calls _ _).mono ?_); rintro e w' ⟨rfl, ⟨nd, rfl⟩⟩)
    | (go_at_call 31; (with_reducible refine (names_Right.calls rest e _ HE.out).mono ?_); rintro e w1 ⟨rfl, hb1⟩))
  refine bodyPost_ret (results_list (rs := [.tmp 2, .tmp 3, .tmp 4, .tmp 5]) rfl (by simp) (.tmp (.tmp (.tmp (.tmp .nil))))) rfl ?_
  exact ⟨rfl, by repeat (first | exact Below.refl _ _ | apply pw_below_drewN | apply below_drew1)⟩
set_option maxHeartbeats 8000000 in
set_option maxRecDepth 100000 in
theorem kind_i1 (s rest pre : ByteArray) (e : Int) (w : World) (h3 : 3 ≤ s.size) (hrest : s.extract 3 s.size = rest) (hpre : s.extract 0 3 = pre)
    (f0 : (num2 s == 0) = false) (f1 : (num2 s != 0) = true) (f2 : goodInoB (num2 s) = true) (f3 : (bt s 2 == 1) = true) (f4 : (bt s 2 != 1) = false) (f5 : (rest.toList == ([] : List UInt8)) = true) (f6 : (rest.toList != ([] : List UInt8)) = false) (f7 : rest.toList.isEmpty = true) (f8 : (!rest.toList.isEmpty) = false) : Calls Try.prog 30 #[.string s] w fun e w' => e = .returned (.tuple #[.int .i64 1, .int .i64 (num2 s), .string ⟨#[]⟩, .int .i64 0]) ∧ Below w.heap.size w w' := by
  have h2 : 2 ≤ s.size := by omega
  have a1 : decide ((s.size : Int) < 3) = false := decide_eq_false (by omega)
  have a2 : decide (s.size < 3) = false := decide_eq_false (by omega)
  have b0 : (3 ≤ (s.size : Int)) = True := eq_true (by omega)
  have b1 : decide (3 ≤ (s.size : Int)) = true := decide_eq_true (by omega)
  have b2 : (2 < s.size) = True := eq_true (by omega)
  have b3 : (2 < (s.size : Int)) = True := eq_true (by omega)
  have hx : ∀ h : 2 < s.size, ((s[2]'h).toNat : Int) = bt s 2 := bt_at s 2
  obtain ⟨r0, r1⟩ := bt_range s 2
  go_enter Try.func30, Try.ntmps30
  go_wp2_with (first
    | (go_at_call 55; (with_reducible refine (num_calls _ _ (by assumption)).mono ?_); rintro e w' ⟨rfl, ⟨nd, rfl⟩⟩)
    | (go_at_call 56; (with_reducible refine (good_calls _ _).mono ?_); rintro e w' ⟨rfl, ⟨nd, rfl⟩⟩)
    | (go_at_call 57; (with_reducible refine (blk_calls _ _).mono ?_); rintro e w' ⟨rfl, ⟨nd, rfl⟩⟩)
    | (go_at_call 31; (with_reducible refine (names_Right.calls rest e _ HE.out).mono ?_); rintro e w1 ⟨rfl, hb1⟩))
  go_quiet ((go_at_call 55; exact Calls.quiet_of ((num_calls _ _ (by assumption)).mono fun _ _ ⟨he_, hd_⟩ => ⟨he_, hd_.out⟩)))
  go_wp2_with (first
    | (go_at_call 55; (with_reducible refine (num_calls _ _ (by assumption)).mono ?_); rintro e w' ⟨rfl, ⟨nd, rfl⟩⟩)
    | (go_at_call 56; (with_reducible refine (good_calls _ _).mono ?_); rintro e w' ⟨rfl, ⟨nd, rfl⟩⟩)
    | (go_at_call 57; (with_reducible refine (blk_calls _ _).mono ?_); rintro e w' ⟨rfl, ⟨nd, rfl⟩⟩)
    | (go_at_call 31; (with_reducible refine (names_Right.calls rest e _ HE.out).mono ?_); rintro e w1 ⟨rfl, hb1⟩))
  refine bodyPost_ret (results_list (rs := [.tmp 2, .tmp 3, .tmp 4, .tmp 5]) rfl (by simp) (.tmp (.tmp (.tmp (.tmp .nil))))) rfl ?_
  exact ⟨rfl, by repeat (first | exact Below.refl _ _ | apply pw_below_drewN | apply below_drew1)⟩
set_option maxHeartbeats 8000000 in
set_option maxRecDepth 100000 in
theorem kind_i2 (s rest pre : ByteArray) (e : Int) (w : World) (h3 : 3 ≤ s.size) (hrest : s.extract 3 s.size = rest) (hpre : s.extract 0 3 = pre)
    (f0 : (num2 s == 0) = false) (f1 : (num2 s != 0) = true) (f2 : goodInoB (num2 s) = true) (f3 : (bt s 2 == 1) = true) (f4 : (bt s 2 != 1) = false) (f5 : (bt s 2 == 2) = false) (f6 : (bt s 2 != 2) = true) (f7 : (bt s 2 == 3) = false) (f8 : (bt s 2 != 3) = true) (f9 : (rest.toList == ([] : List UInt8)) = false) (f10 : (rest.toList != ([] : List UInt8)) = true) (f11 : rest.toList.isEmpty = false) (f12 : (!rest.toList.isEmpty) = true) : Calls Try.prog 30 #[.string s] w fun e w' => e = .returned (.tuple #[.int .i64 0, .int .i64 0, .string ⟨#[]⟩, .int .i64 0]) ∧ Below w.heap.size w w' := by
  have h2 : 2 ≤ s.size := by omega
  have a1 : decide ((s.size : Int) < 3) = false := decide_eq_false (by omega)
  have a2 : decide (s.size < 3) = false := decide_eq_false (by omega)
  have b0 : (3 ≤ (s.size : Int)) = True := eq_true (by omega)
  have b1 : decide (3 ≤ (s.size : Int)) = true := decide_eq_true (by omega)
  have b2 : (2 < s.size) = True := eq_true (by omega)
  have b3 : (2 < (s.size : Int)) = True := eq_true (by omega)
  have hx : ∀ h : 2 < s.size, ((s[2]'h).toNat : Int) = bt s 2 := bt_at s 2
  obtain ⟨r0, r1⟩ := bt_range s 2
  go_enter Try.func30, Try.ntmps30
  go_wp2_with (first
    | (go_at_call 55; (with_reducible refine (num_calls _ _ (by assumption)).mono ?_); rintro e w' ⟨rfl, ⟨nd, rfl⟩⟩)
    | (go_at_call 56; (with_reducible refine (good_calls _ _).mono ?_); rintro e w' ⟨rfl, ⟨nd, rfl⟩⟩)
    | (go_at_call 57; (with_reducible refine (blk_calls _ _).mono ?_); rintro e w' ⟨rfl, ⟨nd, rfl⟩⟩)
    | (go_at_call 31; (with_reducible refine (names_Right.calls rest e _ HE.out).mono ?_); rintro e w1 ⟨rfl, hb1⟩))
  go_quiet ((go_at_call 55; exact Calls.quiet_of ((num_calls _ _ (by assumption)).mono fun _ _ ⟨he_, hd_⟩ => ⟨he_, hd_.out⟩)))
  go_wp2_with (first
    | (go_at_call 55; (with_reducible refine (num_calls _ _ (by assumption)).mono ?_); rintro e w' ⟨rfl, ⟨nd, rfl⟩⟩)
    | (go_at_call 56; (with_reducible refine (good_calls _ _).mono ?_); rintro e w' ⟨rfl, ⟨nd, rfl⟩⟩)
    | (go_at_call 57; (with_reducible refine (blk_calls _ _).mono ?_); rintro e w' ⟨rfl, ⟨nd, rfl⟩⟩)
    | (go_at_call 31; (with_reducible refine (names_Right.calls rest e _ HE.out).mono ?_); rintro e w1 ⟨rfl, hb1⟩))
  refine bodyPost_ret (results_list (rs := [.tmp 2, .tmp 3, .tmp 4, .tmp 5]) rfl (by simp) (.tmp (.tmp (.tmp (.tmp .nil))))) rfl ?_
  exact ⟨rfl, by repeat (first | exact Below.refl _ _ | apply pw_below_drewN | apply below_drew1)⟩
set_option maxHeartbeats 8000000 in
set_option maxRecDepth 100000 in
theorem kind_e1 (s rest pre : ByteArray) (e : Int) (w : World) (h3 : 3 ≤ s.size) (hrest : s.extract 3 s.size = rest) (hpre : s.extract 0 3 = pre) (hR : names_Right.f rest = some e)
    (f0 : (num2 s == 0) = false) (f1 : (num2 s != 0) = true) (f2 : goodInoB (num2 s) = true) (f3 : (bt s 2 == 1) = false) (f4 : (bt s 2 != 1) = true) (f5 : (bt s 2 == 2) = true) (f6 : (bt s 2 != 2) = false) (f7 : (e == 0) = true) (f8 : (e != 0) = false) : Calls Try.prog 30 #[.string s] w fun e w' => e = .returned (.tuple #[.int .i64 2, .int .i64 (num2 s), .string rest, .int .i64 0]) ∧ Below w.heap.size w w' := by
  have h2 : 2 ≤ s.size := by omega
  have a1 : decide ((s.size : Int) < 3) = false := decide_eq_false (by omega)
  have a2 : decide (s.size < 3) = false := decide_eq_false (by omega)
  have b0 : (3 ≤ (s.size : Int)) = True := eq_true (by omega)
  have b1 : decide (3 ≤ (s.size : Int)) = true := decide_eq_true (by omega)
  have b2 : (2 < s.size) = True := eq_true (by omega)
  have b3 : (2 < (s.size : Int)) = True := eq_true (by omega)
  have hx : ∀ h : 2 < s.size, ((s[2]'h).toNat : Int) = bt s 2 := bt_at s 2
  obtain ⟨r0, r1⟩ := bt_range s 2
  have HE := Aside0.mk hR
  clear hR
  go_enter Try.func30, Try.ntmps30
  go_wp2_with (first
    | (go_at_call 55; (with_reducible refine (num_calls _ _ (by assumption)).mono ?_); rintro e w' ⟨rfl, ⟨nd, rfl⟩⟩)
    | (go_at_call 56; (with_reducible refine (good_calls _ _).mono ?_); rintro e w' ⟨rfl, ⟨nd, rfl⟩⟩)
    | (go_at_call 57; (with_reducible refine (blk_calls _ _).mono ?_); rintro e w' ⟨rfl, ⟨nd, rfl⟩⟩)
    | (go_at_call 31; (with_reducible refine (names_Right.calls rest e _ HE.out).mono ?_); rintro e w1 ⟨rfl, hb1⟩))
  go_quiet ((go_at_call 55; exact Calls.quiet_of ((num_calls _ _ (by assumption)).mono fun _ _ ⟨he_, hd_⟩ => ⟨he_, hd_.out⟩)))
  go_wp2_with (first
    | (go_at_call 55; (with_reducible refine (num_calls _ _ (by assumption)).mono ?_); rintro e w' ⟨rfl, ⟨nd, rfl⟩⟩)
    | (go_at_call 56; (with_reducible refine (good_calls _ _).mono ?_); rintro e w' ⟨rfl, ⟨nd, rfl⟩⟩)
    | (go_at_call 57; (with_reducible refine (blk_calls _ _).mono ?_); rintro e w' ⟨rfl, ⟨nd, rfl⟩⟩)
    | (go_at_call 31; (with_reducible refine (names_Right.calls rest e _ HE.out).mono ?_); rintro e w1 ⟨rfl, hb1⟩))
  refine bodyPost_ret (results_list (rs := [.tmp 2, .tmp 3, .tmp 4, .tmp 5]) rfl (by simp) (.tmp (.tmp (.tmp (.tmp .nil))))) rfl ?_
  exact ⟨rfl, by repeat (first | exact Below.refl _ _ | exact ⟨hb1.os, hb1.tape, hb1.output, hb1.size, hb1.block⟩ | apply pw_below_drewN | apply below_drew1)⟩
set_option maxHeartbeats 8000000 in
set_option maxRecDepth 100000 in
theorem kind_e2 (s rest pre : ByteArray) (e : Int) (w : World) (h3 : 3 ≤ s.size) (hrest : s.extract 3 s.size = rest) (hpre : s.extract 0 3 = pre) (hR : names_Right.f rest = some e)
    (f0 : (num2 s == 0) = false) (f1 : (num2 s != 0) = true) (f2 : goodInoB (num2 s) = true) (f3 : (bt s 2 == 1) = false) (f4 : (bt s 2 != 1) = true) (f5 : (bt s 2 == 2) = true) (f6 : (bt s 2 != 2) = false) (f7 : (bt s 2 == 3) = false) (f8 : (bt s 2 != 3) = true) (f9 : (e == 0) = false) (f10 : (e != 0) = true) : Calls Try.prog 30 #[.string s] w fun e w' => e = .returned (.tuple #[.int .i64 0, .int .i64 0, .string ⟨#[]⟩, .int .i64 0]) ∧ Below w.heap.size w w' := by
  have h2 : 2 ≤ s.size := by omega
  have a1 : decide ((s.size : Int) < 3) = false := decide_eq_false (by omega)
  have a2 : decide (s.size < 3) = false := decide_eq_false (by omega)
  have b0 : (3 ≤ (s.size : Int)) = True := eq_true (by omega)
  have b1 : decide (3 ≤ (s.size : Int)) = true := decide_eq_true (by omega)
  have b2 : (2 < s.size) = True := eq_true (by omega)
  have b3 : (2 < (s.size : Int)) = True := eq_true (by omega)
  have hx : ∀ h : 2 < s.size, ((s[2]'h).toNat : Int) = bt s 2 := bt_at s 2
  obtain ⟨r0, r1⟩ := bt_range s 2
  have HE := Aside0.mk hR
  clear hR
  go_enter Try.func30, Try.ntmps30
  go_wp2_with (first
    | (go_at_call 55; (with_reducible refine (num_calls _ _ (by assumption)).mono ?_); rintro e w' ⟨rfl, ⟨nd, rfl⟩⟩)
    | (go_at_call 56; (with_reducible refine (good_calls _ _).mono ?_); rintro e w' ⟨rfl, ⟨nd, rfl⟩⟩)
    | (go_at_call 57; (with_reducible refine (blk_calls _ _).mono ?_); rintro e w' ⟨rfl, ⟨nd, rfl⟩⟩)
    | (go_at_call 31; (with_reducible refine (names_Right.calls rest e _ HE.out).mono ?_); rintro e w1 ⟨rfl, hb1⟩))
  go_quiet ((go_at_call 55; exact Calls.quiet_of ((num_calls _ _ (by assumption)).mono fun _ _ ⟨he_, hd_⟩ => ⟨he_, hd_.out⟩)))
  go_wp2_with (first
    | (go_at_call 55; (with_reducible refine (num_calls _ _ (by assumption)).mono ?_); rintro e w' ⟨rfl, ⟨nd, rfl⟩⟩)
    | (go_at_call 56; (with_reducible refine (good_calls _ _).mono ?_); rintro e w' ⟨rfl, ⟨nd, rfl⟩⟩)
    | (go_at_call 57; (with_reducible refine (blk_calls _ _).mono ?_); rintro e w' ⟨rfl, ⟨nd, rfl⟩⟩)
    | (go_at_call 31; (with_reducible refine (names_Right.calls rest e _ HE.out).mono ?_); rintro e w1 ⟨rfl, hb1⟩))
  refine bodyPost_ret (results_list (rs := [.tmp 2, .tmp 3, .tmp 4, .tmp 5]) rfl (by simp) (.tmp (.tmp (.tmp (.tmp .nil))))) rfl ?_
  exact ⟨rfl, by repeat (first | exact Below.refl _ _ | exact ⟨hb1.os, hb1.tape, hb1.output, hb1.size, hb1.block⟩ | apply pw_below_drewN | apply below_drew1)⟩
set_option maxHeartbeats 8000000 in
set_option maxRecDepth 100000 in
theorem kind_k1 (s rest pre : ByteArray) (e : Int) (w : World) (h3 : 3 ≤ s.size) (hrest : s.extract 3 s.size = rest) (hpre : s.extract 0 3 = pre) (hr2 : 2 ≤ rest.size)
    (f0 : (num2 s == 0) = false) (f1 : (num2 s != 0) = true) (f2 : goodInoB (num2 s) = true) (f3 : (bt s 2 == 1) = false) (f4 : (bt s 2 != 1) = true) (f5 : (bt s 2 == 2) = false) (f6 : (bt s 2 != 2) = true) (f7 : (bt s 2 == 3) = true) (f8 : (bt s 2 != 3) = false) (f9 : ((rest.size : Int) == 2) = true) (f10 : ((rest.size : Int) != 2) = false) (f11 : (rest.size == 2) = true) (f12 : (rest.size != 2) = false) (f13 : goodBlockB (num2 rest) = true) : Calls Try.prog 30 #[.string s] w fun e w' => e = .returned (.tuple #[.int .i64 3, .int .i64 (num2 s), .string ⟨#[]⟩, .int .i64 (num2 rest)]) ∧ Below w.heap.size w w' := by
  have h2 : 2 ≤ s.size := by omega
  have a1 : decide ((s.size : Int) < 3) = false := decide_eq_false (by omega)
  have a2 : decide (s.size < 3) = false := decide_eq_false (by omega)
  have b0 : (3 ≤ (s.size : Int)) = True := eq_true (by omega)
  have b1 : decide (3 ≤ (s.size : Int)) = true := decide_eq_true (by omega)
  have b2 : (2 < s.size) = True := eq_true (by omega)
  have b3 : (2 < (s.size : Int)) = True := eq_true (by omega)
  have hx : ∀ h : 2 < s.size, ((s[2]'h).toNat : Int) = bt s 2 := bt_at s 2
  obtain ⟨r0, r1⟩ := bt_range s 2
  go_enter Try.func30, Try.ntmps30
  go_wp2_with (first
    | (go_at_call 55; (with_reducible refine (num_calls _ _ (by assumption)).mono ?_); rintro e w' ⟨rfl, ⟨nd, rfl⟩⟩)
    | (go_at_call 56; (with_reducible refine (good_calls _ _).mono ?_); rintro e w' ⟨rfl, ⟨nd, rfl⟩⟩)
    | (go_at_call 57; (with_reducible refine (blk_calls _ _).mono ?_); rintro e w' ⟨rfl, ⟨nd, rfl⟩⟩)
    | (go_at_call 31; (with_reducible refine (names_Right.calls rest e _ HE.out).mono ?_); rintro e w1 ⟨rfl, hb1⟩))
  go_quiet ((go_at_call 55; exact Calls.quiet_of ((num_calls _ _ (by assumption)).mono fun _ _ ⟨he_, hd_⟩ => ⟨he_, hd_.out⟩)))
  go_wp2_with (first
    | (go_at_call 55; (with_reducible refine (num_calls _ _ (by assumption)).mono ?_); rintro e w' ⟨rfl, ⟨nd, rfl⟩⟩)
    | (go_at_call 56; (with_reducible refine (good_calls _ _).mono ?_); rintro e w' ⟨rfl, ⟨nd, rfl⟩⟩)
    | (go_at_call 57; (with_reducible refine (blk_calls _ _).mono ?_); rintro e w' ⟨rfl, ⟨nd, rfl⟩⟩)
    | (go_at_call 31; (with_reducible refine (names_Right.calls rest e _ HE.out).mono ?_); rintro e w1 ⟨rfl, hb1⟩))
  refine bodyPost_ret (results_list (rs := [.tmp 2, .tmp 3, .tmp 4, .tmp 5]) rfl (by simp) (.tmp (.tmp (.tmp (.tmp .nil))))) rfl ?_
  exact ⟨rfl, by repeat (first | exact Below.refl _ _ | apply pw_below_drewN | apply below_drew1)⟩
set_option maxHeartbeats 8000000 in
set_option maxRecDepth 100000 in
theorem kind_k2 (s rest pre : ByteArray) (e : Int) (w : World) (h3 : 3 ≤ s.size) (hrest : s.extract 3 s.size = rest) (hpre : s.extract 0 3 = pre) (hr2 : 2 ≤ rest.size)
    (f0 : (num2 s == 0) = false) (f1 : (num2 s != 0) = true) (f2 : goodInoB (num2 s) = true) (f3 : (bt s 2 == 1) = false) (f4 : (bt s 2 != 1) = true) (f5 : (bt s 2 == 2) = false) (f6 : (bt s 2 != 2) = true) (f7 : (bt s 2 == 3) = true) (f8 : (bt s 2 != 3) = false) (f9 : ((rest.size : Int) == 2) = true) (f10 : ((rest.size : Int) != 2) = false) (f11 : (rest.size == 2) = true) (f12 : (rest.size != 2) = false) (f13 : goodBlockB (num2 rest) = false) : Calls Try.prog 30 #[.string s] w fun e w' => e = .returned (.tuple #[.int .i64 0, .int .i64 0, .string ⟨#[]⟩, .int .i64 0]) ∧ Below w.heap.size w w' := by
  have h2 : 2 ≤ s.size := by omega
  have a1 : decide ((s.size : Int) < 3) = false := decide_eq_false (by omega)
  have a2 : decide (s.size < 3) = false := decide_eq_false (by omega)
  have b0 : (3 ≤ (s.size : Int)) = True := eq_true (by omega)
  have b1 : decide (3 ≤ (s.size : Int)) = true := decide_eq_true (by omega)
  have b2 : (2 < s.size) = True := eq_true (by omega)
  have b3 : (2 < (s.size : Int)) = True := eq_true (by omega)
  have hx : ∀ h : 2 < s.size, ((s[2]'h).toNat : Int) = bt s 2 := bt_at s 2
  obtain ⟨r0, r1⟩ := bt_range s 2
  go_enter Try.func30, Try.ntmps30
  go_wp2_with (first
    | (go_at_call 55; (with_reducible refine (num_calls _ _ (by assumption)).mono ?_); rintro e w' ⟨rfl, ⟨nd, rfl⟩⟩)
    | (go_at_call 56; (with_reducible refine (good_calls _ _).mono ?_); rintro e w' ⟨rfl, ⟨nd, rfl⟩⟩)
    | (go_at_call 57; (with_reducible refine (blk_calls _ _).mono ?_); rintro e w' ⟨rfl, ⟨nd, rfl⟩⟩)
    | (go_at_call 31; (with_reducible refine (names_Right.calls rest e _ HE.out).mono ?_); rintro e w1 ⟨rfl, hb1⟩))
  go_quiet ((go_at_call 55; exact Calls.quiet_of ((num_calls _ _ (by assumption)).mono fun _ _ ⟨he_, hd_⟩ => ⟨he_, hd_.out⟩)))
  go_wp2_with (first
    | (go_at_call 55; (with_reducible refine (num_calls _ _ (by assumption)).mono ?_); rintro e w' ⟨rfl, ⟨nd, rfl⟩⟩)
    | (go_at_call 56; (with_reducible refine (good_calls _ _).mono ?_); rintro e w' ⟨rfl, ⟨nd, rfl⟩⟩)
    | (go_at_call 57; (with_reducible refine (blk_calls _ _).mono ?_); rintro e w' ⟨rfl, ⟨nd, rfl⟩⟩)
    | (go_at_call 31; (with_reducible refine (names_Right.calls rest e _ HE.out).mono ?_); rintro e w1 ⟨rfl, hb1⟩))
  refine bodyPost_ret (results_list (rs := [.tmp 2, .tmp 3, .tmp 4, .tmp 5]) rfl (by simp) (.tmp (.tmp (.tmp (.tmp .nil))))) rfl ?_
  exact ⟨rfl, by repeat (first | exact Below.refl _ _ | apply pw_below_drewN | apply below_drew1)⟩
set_option maxHeartbeats 8000000 in
set_option maxRecDepth 100000 in
theorem kind_k3 (s rest pre : ByteArray) (e : Int) (w : World) (h3 : 3 ≤ s.size) (hrest : s.extract 3 s.size = rest) (hpre : s.extract 0 3 = pre)
    (f0 : (num2 s == 0) = false) (f1 : (num2 s != 0) = true) (f2 : goodInoB (num2 s) = true) (f3 : (bt s 2 == 1) = false) (f4 : (bt s 2 != 1) = true) (f5 : (bt s 2 == 2) = false) (f6 : (bt s 2 != 2) = true) (f7 : (bt s 2 == 3) = true) (f8 : (bt s 2 != 3) = false) (f9 : ((rest.size : Int) == 2) = false) (f10 : ((rest.size : Int) != 2) = true) (f11 : (rest.size == 2) = false) (f12 : (rest.size != 2) = true) : Calls Try.prog 30 #[.string s] w fun e w' => e = .returned (.tuple #[.int .i64 0, .int .i64 0, .string ⟨#[]⟩, .int .i64 0]) ∧ Below w.heap.size w w' := by
  have h2 : 2 ≤ s.size := by omega
  have a1 : decide ((s.size : Int) < 3) = false := decide_eq_false (by omega)
  have a2 : decide (s.size < 3) = false := decide_eq_false (by omega)
  have b0 : (3 ≤ (s.size : Int)) = True := eq_true (by omega)
  have b1 : decide (3 ≤ (s.size : Int)) = true := decide_eq_true (by omega)
  have b2 : (2 < s.size) = True := eq_true (by omega)
  have b3 : (2 < (s.size : Int)) = True := eq_true (by omega)
  have hx : ∀ h : 2 < s.size, ((s[2]'h).toNat : Int) = bt s 2 := bt_at s 2
  obtain ⟨r0, r1⟩ := bt_range s 2
  go_enter Try.func30, Try.ntmps30
  go_wp2_with (first
    | (go_at_call 55; (with_reducible refine (num_calls _ _ (by assumption)).mono ?_); rintro e w' ⟨rfl, ⟨nd, rfl⟩⟩)
    | (go_at_call 56; (with_reducible refine (good_calls _ _).mono ?_); rintro e w' ⟨rfl, ⟨nd, rfl⟩⟩)
    | (go_at_call 57; (with_reducible refine (blk_calls _ _).mono ?_); rintro e w' ⟨rfl, ⟨nd, rfl⟩⟩)
    | (go_at_call 31; (with_reducible refine (names_Right.calls rest e _ HE.out).mono ?_); rintro e w1 ⟨rfl, hb1⟩))
  go_quiet ((go_at_call 55; exact Calls.quiet_of ((num_calls _ _ (by assumption)).mono fun _ _ ⟨he_, hd_⟩ => ⟨he_, hd_.out⟩)))
  go_wp2_with (first
    | (go_at_call 55; (with_reducible refine (num_calls _ _ (by assumption)).mono ?_); rintro e w' ⟨rfl, ⟨nd, rfl⟩⟩)
    | (go_at_call 56; (with_reducible refine (good_calls _ _).mono ?_); rintro e w' ⟨rfl, ⟨nd, rfl⟩⟩)
    | (go_at_call 57; (with_reducible refine (blk_calls _ _).mono ?_); rintro e w' ⟨rfl, ⟨nd, rfl⟩⟩)
    | (go_at_call 31; (with_reducible refine (names_Right.calls rest e _ HE.out).mono ?_); rintro e w1 ⟨rfl, hb1⟩))
  refine bodyPost_ret (results_list (rs := [.tmp 2, .tmp 3, .tmp 4, .tmp 5]) rfl (by simp) (.tmp (.tmp (.tmp (.tmp .nil))))) rfl ?_
  exact ⟨rfl, by repeat (first | exact Below.refl _ _ | apply pw_below_drewN | apply below_drew1)⟩
set_option maxHeartbeats 8000000 in
set_option maxRecDepth 100000 in
theorem kind_z1 (s rest pre : ByteArray) (e : Int) (w : World) (h3 : 3 ≤ s.size) (hrest : s.extract 3 s.size = rest) (hpre : s.extract 0 3 = pre)
    (f0 : (num2 s == 0) = false) (f1 : (num2 s != 0) = true) (f2 : goodInoB (num2 s) = true) (f3 : (bt s 2 == 1) = false) (f4 : (bt s 2 != 1) = true) (f5 : (bt s 2 == 2) = false) (f6 : (bt s 2 != 2) = true) (f7 : (bt s 2 == 3) = false) (f8 : (bt s 2 != 3) = true) : Calls Try.prog 30 #[.string s] w fun e w' => e = .returned (.tuple #[.int .i64 0, .int .i64 0, .string ⟨#[]⟩, .int .i64 0]) ∧ Below w.heap.size w w' := by
  have h2 : 2 ≤ s.size := by omega
  have a1 : decide ((s.size : Int) < 3) = false := decide_eq_false (by omega)
  have a2 : decide (s.size < 3) = false := decide_eq_false (by omega)
  have b0 : (3 ≤ (s.size : Int)) = True := eq_true (by omega)
  have b1 : decide (3 ≤ (s.size : Int)) = true := decide_eq_true (by omega)
  have b2 : (2 < s.size) = True := eq_true (by omega)
  have b3 : (2 < (s.size : Int)) = True := eq_true (by omega)
  have hx : ∀ h : 2 < s.size, ((s[2]'h).toNat : Int) = bt s 2 := bt_at s 2
  obtain ⟨r0, r1⟩ := bt_range s 2
  go_enter Try.func30, Try.ntmps30
  go_wp2_with (first
    | (go_at_call 55; (with_reducible refine (num_calls _ _ (by assumption)).mono ?_); rintro e w' ⟨rfl, ⟨nd, rfl⟩⟩)
    | (go_at_call 56; (with_reducible refine (good_calls _ _).mono ?_); rintro e w' ⟨rfl, ⟨nd, rfl⟩⟩)
    | (go_at_call 57; (with_reducible refine (blk_calls _ _).mono ?_); rintro e w' ⟨rfl, ⟨nd, rfl⟩⟩)
    | (go_at_call 31; (with_reducible refine (names_Right.calls rest e _ HE.out).mono ?_); rintro e w1 ⟨rfl, hb1⟩))
  go_quiet ((go_at_call 55; exact Calls.quiet_of ((num_calls _ _ (by assumption)).mono fun _ _ ⟨he_, hd_⟩ => ⟨he_, hd_.out⟩)))
  go_wp2_with (first
    | (go_at_call 55; (with_reducible refine (num_calls _ _ (by assumption)).mono ?_); rintro e w' ⟨rfl, ⟨nd, rfl⟩⟩)
    | (go_at_call 56; (with_reducible refine (good_calls _ _).mono ?_); rintro e w' ⟨rfl, ⟨nd, rfl⟩⟩)
    | (go_at_call 57; (with_reducible refine (blk_calls _ _).mono ?_); rintro e w' ⟨rfl, ⟨nd, rfl⟩⟩)
    | (go_at_call 31; (with_reducible refine (names_Right.calls rest e _ HE.out).mono ?_); rintro e w1 ⟨rfl, hb1⟩))
  refine bodyPost_ret (results_list (rs := [.tmp 2, .tmp 3, .tmp 4, .tmp 5]) rfl (by simp) (.tmp (.tmp (.tmp (.tmp .nil))))) rfl ?_
  exact ⟨rfl, by repeat (first | exact Below.refl _ _ | apply pw_below_drewN | apply below_drew1)⟩

/-- What a key is: a kind, a number, a name, a block's number. e: what names.Right says of what stands behind the third byte. -/
def kindK (orph : Bool) (e : Int) (n b : Int) (rest : ByteArray) : Int × Int × ByteArray × Int :=
  if orph && (rest.size == 2) && goodInoB (num2 rest) then (4, num2 rest, ⟨#[]⟩, 0)
  else if goodInoB n = false then (0, 0, ⟨#[]⟩, 0)
  else if b = 1 then (if rest.size = 0 then (1, n, ⟨#[]⟩, 0) else (0, 0, ⟨#[]⟩, 0))
  else if b = 2 then (if e = 0 then (2, n, rest, 0) else (0, 0, ⟨#[]⟩, 0))
  else if b = 3 then (if rest.size = 2 ∧ goodBlockB (num2 rest) = true then (3, n, ⟨#[]⟩, num2 rest) else (0, 0, ⟨#[]⟩, 0))
  else (0, 0, ⟨#[]⟩, 0)
theorem goodInoB_zero : goodInoB 0 = false := by decide
theorem empty_list (s : ByteArray) : (s.toList == ([] : List UInt8)) = decide (s.size = 0) := by
  rw [Lib.toList_data, Bool.eq_iff_iff]
  have : s.data.toList = [] ↔ s.size = 0 := by rw [← List.length_eq_zero_iff, Array.length_toList]; rfl
  simp only [beq_iff_eq, List.isEmpty_iff, decide_eq_true_eq]
  exact this
theorem num2_range (s : ByteArray) : 0 ≤ num2 s ∧ num2 s ≤ 65535 := by
  have r0 := bt_range s 0
  have r1 := bt_range s 1
  unfold num2
  omega
theorem isEmpty_eq (s : ByteArray) : s.toList.isEmpty = decide (s.size = 0) := by
  rw [Lib.toList_data, Bool.eq_iff_iff]
  have : s.data.toList = [] ↔ s.size = 0 := by rw [← List.length_eq_zero_iff, Array.length_toList]; rfl
  simp only [beq_iff_eq, List.isEmpty_iff, decide_eq_true_eq]
  exact this
def node_Kind.f (s : ByteArray) : Option (Int × Int × ByteArray × Int) :=
  if s.size < 3 then some (0, 0, ⟨#[]⟩, 0) else (names_Right.f (s.extract 3 s.size)).bind fun e => some (kindK ((num2 s == 0) && ((s.extract 0 3).toList == ([0, 0, 4] : List UInt8))) e (num2 s) (bt s 2) (s.extract 3 s.size))
theorem node_Kind.calls (s : ByteArray) (r1 : Int) (r2 : Int) (r3 : ByteArray) (r4 : Int) (w : World) (h : node_Kind.f s = some (r1, r2, r3, r4)) :
    Calls Try.prog 30 #[.string s] w fun e w' => e = .returned (.tuple #[.int .i64 r1, .int .i64 r2, .string r3, .int .i64 r4]) ∧ Below w.heap.size w w' := by
  unfold node_Kind.f at h
  by_cases h3 : s.size < 3
  · rw [if_pos h3] at h
    simp only [Option.some.injEq, Prod.mk.injEq] at h
    obtain ⟨rfl, rfl, rfl, rfl⟩ := h
    exact kind_s s w h3
  rw [if_neg h3] at h
  obtain ⟨e, he, h⟩ := Option.bind_eq_some_iff.mp h
  replace h := Option.some.inj h
  obtain ⟨rest, hrest⟩ : ∃ rest, s.extract 3 s.size = rest := ⟨_, rfl⟩
  obtain ⟨pre, hpre⟩ : ∃ pre, s.extract 0 3 = pre := ⟨_, rfl⟩
  rw [hrest] at he
  simp only [hrest, hpre] at h
  have h3' : 3 ≤ s.size := by omega
  have hB : ∀ (a b : Int), a = b → (a == b) = true ∧ (a != b) = false := fun a b h => by subst h; simp
  have hN : ∀ (a b : Int), ¬ a = b → (a == b) = false ∧ (a != b) = true := fun a b h => by simp [h]
  have hBn : ∀ (a b : Nat), a = b → (a == b) = true ∧ (a != b) = false := fun a b h => by subst h; simp
  have hNn : ∀ (a b : Nat), ¬ a = b → (a == b) = false ∧ (a != b) = true := fun a b h => by simp [h]
  by_cases hn : num2 s = 0
  · have hg : goodInoB (num2 s) = false := by rw [hn]; rfl
    by_cases ho : pre.toList = ([0, 0, 4] : List UInt8)
    · by_cases h2 : rest.size = 2
      · have h2' : (rest.size : Int) = 2 := by omega
        by_cases hg2 : goodInoB (num2 rest) = true
        · simp [kindK, hn, ho, h2, hg2] at h
          obtain ⟨rfl, rfl, rfl, rfl⟩ := h
          exact kind_o1 s rest pre 0 w h3' hrest hpre (by omega) (hB _ _ hn).1 (hB _ _ hn).2 (by simp [ho]) (by simp [ho]) (hB _ _ h2').1 (hB _ _ h2').2 (hBn _ _ h2).1 (hBn _ _ h2).2 hg2
        · replace hg2 : goodInoB (num2 rest) = false := Bool.eq_false_iff.mpr hg2
          simp [kindK, hn, ho, h2, hg2, goodInoB_zero] at h
          obtain ⟨rfl, rfl, rfl, rfl⟩ := h
          exact kind_o2 s rest pre 0 w h3' hrest hpre (by omega) (hB _ _ hn).1 (hB _ _ hn).2 hg (by simp [ho]) (by simp [ho]) (hB _ _ h2').1 (hB _ _ h2').2 (hBn _ _ h2).1 (hBn _ _ h2).2 hg2
      · have h2' : ¬ (rest.size : Int) = 2 := by omega
        simp [kindK, hn, ho, h2, goodInoB_zero] at h
        obtain ⟨rfl, rfl, rfl, rfl⟩ := h
        exact kind_o3 s rest pre 0 w h3' hrest hpre (hB _ _ hn).1 (hB _ _ hn).2 hg (by simp [ho]) (by simp [ho]) (hN _ _ h2').1 (hN _ _ h2').2 (hNn _ _ h2).1 (hNn _ _ h2).2
    · simp [kindK, hn, ho, goodInoB_zero] at h
      obtain ⟨rfl, rfl, rfl, rfl⟩ := h
      exact kind_o4 s rest pre 0 w h3' hrest hpre (hB _ _ hn).1 (hB _ _ hn).2 hg (by simp [ho]) (by simp [ho])
  by_cases hg : goodInoB (num2 s) = true
  rotate_left
  · replace hg : goodInoB (num2 s) = false := Bool.eq_false_iff.mpr hg
    simp [kindK, hn, hg] at h
    obtain ⟨rfl, rfl, rfl, rfl⟩ := h
    exact kind_b1 s rest pre 0 w h3' hrest hpre (hN _ _ hn).1 (hN _ _ hn).2 hg
  · by_cases hb1 : bt s 2 = 1
    · have hb2 : ¬ bt s 2 = 2 := by omega
      have hb3 : ¬ bt s 2 = 3 := by omega
      by_cases hz : rest.size = 0
      · simp only [kindK, hn, hg, hb1, hz] at h
        simp [hn] at h
        obtain ⟨rfl, rfl, rfl, rfl⟩ := h
        exact kind_i1 s rest pre 0 w h3' hrest hpre (hN _ _ hn).1 (hN _ _ hn).2 hg (hB _ _ hb1).1 (hB _ _ hb1).2 (by rw [empty_list]; simp [hz]) (by rw [bne, empty_list]; simp [hz]) (by rw [isEmpty_eq]; simp [hz]) (by rw [isEmpty_eq]; simp [hz])
      · simp only [kindK, hn, hg, hb1, hz] at h
        simp [hn] at h
        obtain ⟨rfl, rfl, rfl, rfl⟩ := h
        exact kind_i2 s rest pre 0 w h3' hrest hpre (hN _ _ hn).1 (hN _ _ hn).2 hg (hB _ _ hb1).1 (hB _ _ hb1).2 (hN _ _ hb2).1 (hN _ _ hb2).2 (hN _ _ hb3).1 (hN _ _ hb3).2 (by rw [empty_list]; simp [hz]) (by rw [bne, empty_list]; simp [hz]) (by rw [isEmpty_eq]; simp [hz]) (by rw [isEmpty_eq]; simp [hz])
    by_cases hb2 : bt s 2 = 2
    · have hb3 : ¬ bt s 2 = 3 := by omega
      by_cases h0 : e = 0
      · simp [kindK, hn, hg, hb2, h0] at h
        obtain ⟨rfl, rfl, rfl, rfl⟩ := h
        exact kind_e1 s rest pre e w h3' hrest hpre he (hN _ _ hn).1 (hN _ _ hn).2 hg (hN _ _ hb1).1 (hN _ _ hb1).2 (hB _ _ hb2).1 (hB _ _ hb2).2 (hB _ _ h0).1 (hB _ _ h0).2
      · simp [kindK, hn, hg, hb2, h0] at h
        obtain ⟨rfl, rfl, rfl, rfl⟩ := h
        exact kind_e2 s rest pre e w h3' hrest hpre he (hN _ _ hn).1 (hN _ _ hn).2 hg (hN _ _ hb1).1 (hN _ _ hb1).2 (hB _ _ hb2).1 (hB _ _ hb2).2 (hN _ _ hb3).1 (hN _ _ hb3).2 (hN _ _ h0).1 (hN _ _ h0).2
    by_cases hb3 : bt s 2 = 3
    · by_cases h2 : rest.size = 2
      · have h2' : (rest.size : Int) = 2 := by omega
        by_cases hk : goodBlockB (num2 rest) = true
        · simp [kindK, hn, hg, hb3, h2, hk] at h
          obtain ⟨rfl, rfl, rfl, rfl⟩ := h
          exact kind_k1 s rest pre 0 w h3' hrest hpre (by omega) (hN _ _ hn).1 (hN _ _ hn).2 hg (hN _ _ hb1).1 (hN _ _ hb1).2 (hN _ _ hb2).1 (hN _ _ hb2).2 (hB _ _ hb3).1 (hB _ _ hb3).2 (hB _ _ h2').1 (hB _ _ h2').2 (hBn _ _ h2).1 (hBn _ _ h2).2 hk
        · replace hk : goodBlockB (num2 rest) = false := Bool.eq_false_iff.mpr hk
          simp [kindK, hn, hg, hb3, h2, hk] at h
          obtain ⟨rfl, rfl, rfl, rfl⟩ := h
          exact kind_k2 s rest pre 0 w h3' hrest hpre (by omega) (hN _ _ hn).1 (hN _ _ hn).2 hg (hN _ _ hb1).1 (hN _ _ hb1).2 (hN _ _ hb2).1 (hN _ _ hb2).2 (hB _ _ hb3).1 (hB _ _ hb3).2 (hB _ _ h2').1 (hB _ _ h2').2 (hBn _ _ h2).1 (hBn _ _ h2).2 hk
      · have h2' : ¬ (rest.size : Int) = 2 := by omega
        simp [kindK, hn, hg, hb3, h2] at h
        obtain ⟨rfl, rfl, rfl, rfl⟩ := h
        exact kind_k3 s rest pre 0 w h3' hrest hpre (hN _ _ hn).1 (hN _ _ hn).2 hg (hN _ _ hb1).1 (hN _ _ hb1).2 (hN _ _ hb2).1 (hN _ _ hb2).2 (hB _ _ hb3).1 (hB _ _ hb3).2 (hN _ _ h2').1 (hN _ _ h2').2 (hNn _ _ h2).1 (hNn _ _ h2).2
    simp [kindK, hn, hg, hb1, hb2, hb3] at h
    obtain ⟨rfl, rfl, rfl, rfl⟩ := h
    exact kind_z1 s rest pre 0 w h3' hrest hpre (hN _ _ hn).1 (hN _ _ hn).2 hg (hN _ _ hb1).1 (hN _ _ hb1).2 (hN _ _ hb2).1 (hN _ _ hb2).2 (hN _ _ hb3).1 (hN _ _ hb3).2
end Go.Proofs.Ytakchpeohmkpkaa.Q
