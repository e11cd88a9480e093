/- pumiceref06.Kind, a walk a way. -/
import Derived.Test.YtakchpeohmkpkaaK2
import Derived.Test.YtakchpeohmkpkaaK3
namespace Go.Proofs.Ytakchpeohmkpkaa.Q
open Go.RowKit Go.Proofs.YtakchpeohmkpkaaW.PrintWords Go.Proofs.YtakchpeohmkpkaaW.PrintLast Go.Proofs.YtakchpeohmkpkaaW.PrintMore
set_option linter.unusedVariables false
set_option linter.unusedSimpArgs false
theorem rnum_f (s : ByteArray) (h : 2 ≤ s.size) : pumiceref06_number.f s = some (num2 s) := by
  unfold pumiceref06_number.f num2
  rw [if_pos (by omega), if_pos (by omega)]
  have r0 := bt_range s 0
  have r1 := bt_range s 1
  congr 1
  unfold wrap64
  omega
theorem rnum_calls (s : ByteArray) (w : World) (h : 2 ≤ s.size) : Calls Try.prog 73 #[.string s] w fun e w' => e = .returned (.int .i64 (num2 s)) ∧ Drawn0 w w' := pumiceref06_number.calls s _ w (rnum_f s h)
theorem rgood_calls (a : Int) (w : World) : Calls Try.prog 65 #[.int .i64 a] w fun e w' => e = .returned (.bool (goodInoB a)) ∧ Drawn0 w w' := by
  refine pumiceref06_Ino.calls a _ w ?_
  unfold pumiceref06_Ino.f goodInoB
  by_cases h : a ≥ 1 <;> simp [h] <;> omega
set_option maxHeartbeats 8000000 in
set_option maxRecDepth 100000 in
theorem rkind_s (s : ByteArray) (w : World) (h3 : s.size < 3) : Calls Try.prog 62 #[.string s] w fun e w' => e = .returned (.tuple #[.int .i64 0, .int .i64 0, .string ⟨#[]⟩, .int .i64 0]) ∧ Below w.heap.size w w' := by
  have a1 : decide ((s.size : Int) < 3) = true := decide_eq_true (by omega)
  have a2 : decide (s.size < 3) = true := decide_eq_true (by omega)
  go_enter Try.func62, Try.ntmps62
  go_wp2
  refine bodyPost_ret (results_list (rs := [.tmp 2, .tmp 3, .tmp 4, .tmp 5]) rfl (by simp) (.tmp (.tmp (.tmp (.tmp .nil))))) rfl ?_
  exact ⟨rfl, Below.refl _ _⟩
set_option maxHeartbeats 8000000 in
set_option maxRecDepth 100000 in
theorem rkind_o1 (s rest pre : ByteArray) (kk : Nat) (e : Int) (w : World) (h3 : 3 ≤ s.size) (hrest : s.extract 3 s.size = rest) (hpre : s.extract 0 3 = pre) (hr2 : 2 ≤ rest.size)
    (f0 : (num2 s == 0) = true) (f1 : (num2 s != 0) = false) (f2 : (bt s 2 == 4) = true) (f3 : (bt s 2 != 4) = false) (f4 : ((rest.size : Int) == 2) = true) (f5 : ((rest.size : Int) != 2) = false) (f6 : (rest.size == 2) = true) (f7 : (rest.size != 2) = false) (f8 : goodInoB (num2 rest) = true) : Calls Try.prog 62 #[.string s] w fun e w' => e = .returned (.tuple #[.int .i64 4, .int .i64 (num2 rest), .string ⟨#[]⟩, .int .i64 0]) ∧ Below w.heap.size w w' := by
  have h2 : 2 ≤ s.size := by omega
  have a1 : decide ((s.size : Int) < 3) = false := decide_eq_false (by omega)
  have a2 : decide (s.size < 3) = false := decide_eq_false (by omega)
  have b0 : (3 ≤ (s.size : Int)) = True := eq_true (by omega)
  have b1 : decide (3 ≤ (s.size : Int)) = true := decide_eq_true (by omega)
  have b2 : (2 < s.size) = True := eq_true (by omega)
  have b3 : (2 < (s.size : Int)) = True := eq_true (by omega)
  have hx : ∀ h : 2 < s.size, ((s[2]'h).toNat : Int) = bt s 2 := bt_at s 2
  obtain ⟨r0, r1⟩ := bt_range s 2
  go_enter Try.func62, Try.ntmps62
  go_wp2_with (first
    | (go_at_call 73; (with_reducible refine (rnum_calls _ _ (by assumption)).mono ?_); rintro e w' ⟨rfl, ⟨nd, rfl⟩⟩)
    | (go_at_call 65; (with_reducible refine (rgood_calls _ _).mono ?_); rintro e w' ⟨rfl, ⟨nd, rfl⟩⟩)
    | (go_at_call 66; (with_reducible refine (pumiceref02_Right.calls kk rest e _ HE.out).mono ?_); rintro e w' ⟨rfl, ⟨nd, rfl⟩⟩))
  refine bodyPost_ret (results_list (rs := [.tmp 2, .tmp 3, .tmp 4, .tmp 5]) rfl (by simp) (.tmp (.tmp (.tmp (.tmp .nil))))) rfl ?_
  exact ⟨rfl, by repeat (first | exact Below.refl _ _ | apply pw_below_drewN | apply below_drew1)⟩
set_option maxHeartbeats 8000000 in
set_option maxRecDepth 100000 in
theorem rkind_o2 (s rest pre : ByteArray) (kk : Nat) (e : Int) (w : World) (h3 : 3 ≤ s.size) (hrest : s.extract 3 s.size = rest) (hpre : s.extract 0 3 = pre) (hr2 : 2 ≤ rest.size)
    (f0 : (num2 s == 0) = true) (f1 : (num2 s != 0) = false) (f2 : goodInoB (num2 s) = false) (f3 : (bt s 2 == 4) = true) (f4 : (bt s 2 != 4) = false) (f5 : ((rest.size : Int) == 2) = true) (f6 : ((rest.size : Int) != 2) = false) (f7 : (rest.size == 2) = true) (f8 : (rest.size != 2) = false) (f9 : goodInoB (num2 rest) = false) : Calls Try.prog 62 #[.string s] w fun e w' => e = .returned (.tuple #[.int .i64 0, .int .i64 0, .string ⟨#[]⟩, .int .i64 0]) ∧ Below w.heap.size w w' := by
  have h2 : 2 ≤ s.size := by omega
  have a1 : decide ((s.size : Int) < 3) = false := decide_eq_false (by omega)
  have a2 : decide (s.size < 3) = false := decide_eq_false (by omega)
  have b0 : (3 ≤ (s.size : Int)) = True := eq_true (by omega)
  have b1 : decide (3 ≤ (s.size : Int)) = true := decide_eq_true (by omega)
  have b2 : (2 < s.size) = True := eq_true (by omega)
  have b3 : (2 < (s.size : Int)) = True := eq_true (by omega)
  have hx : ∀ h : 2 < s.size, ((s[2]'h).toNat : Int) = bt s 2 := bt_at s 2
  obtain ⟨r0, r1⟩ := bt_range s 2
  go_enter Try.func62, Try.ntmps62
  go_wp2_with (first
    | (go_at_call 73; (with_reducible refine (rnum_calls _ _ (by assumption)).mono ?_); rintro e w' ⟨rfl, ⟨nd, rfl⟩⟩)
    | (go_at_call 65; (with_reducible refine (rgood_calls _ _).mono ?_); rintro e w' ⟨rfl, ⟨nd, rfl⟩⟩)
    | (go_at_call 66; (with_reducible refine (pumiceref02_Right.calls kk rest e _ HE.out).mono ?_); rintro e w' ⟨rfl, ⟨nd, rfl⟩⟩))
  refine bodyPost_ret (results_list (rs := [.tmp 2, .tmp 3, .tmp 4, .tmp 5]) rfl (by simp) (.tmp (.tmp (.tmp (.tmp .nil))))) rfl ?_
  exact ⟨rfl, by repeat (first | exact Below.refl _ _ | apply pw_below_drewN | apply below_drew1)⟩
set_option maxHeartbeats 8000000 in
set_option maxRecDepth 100000 in
theorem rkind_o3 (s rest pre : ByteArray) (kk : Nat) (e : Int) (w : World) (h3 : 3 ≤ s.size) (hrest : s.extract 3 s.size = rest) (hpre : s.extract 0 3 = pre)
    (f0 : (num2 s == 0) = true) (f1 : (num2 s != 0) = false) (f2 : goodInoB (num2 s) = false) (f3 : (bt s 2 == 4) = true) (f4 : (bt s 2 != 4) = false) (f5 : ((rest.size : Int) == 2) = false) (f6 : ((rest.size : Int) != 2) = true) (f7 : (rest.size == 2) = false) (f8 : (rest.size != 2) = true) : Calls Try.prog 62 #[.string s] w fun e w' => e = .returned (.tuple #[.int .i64 0, .int .i64 0, .string ⟨#[]⟩, .int .i64 0]) ∧ Below w.heap.size w w' := by
  have h2 : 2 ≤ s.size := by omega
  have a1 : decide ((s.size : Int) < 3) = false := decide_eq_false (by omega)
  have a2 : decide (s.size < 3) = false := decide_eq_false (by omega)
  have b0 : (3 ≤ (s.size : Int)) = True := eq_true (by omega)
  have b1 : decide (3 ≤ (s.size : Int)) = true := decide_eq_true (by omega)
  have b2 : (2 < s.size) = True := eq_true (by omega)
  have b3 : (2 < (s.size : Int)) = True := eq_true (by omega)
  have hx : ∀ h : 2 < s.size, ((s[2]'h).toNat : Int) = bt s 2 := bt_at s 2
  obtain ⟨r0, r1⟩ := bt_range s 2
  go_enter Try.func62, Try.ntmps62
  go_wp2_with (first
    | (go_at_call 73; (with_reducible refine (rnum_calls _ _ (by assumption)).mono ?_); rintro e w' ⟨rfl, ⟨nd, rfl⟩⟩)
    | (go_at_call 65; (with_reducible refine (rgood_calls _ _).mono ?_); rintro e w' ⟨rfl, ⟨nd, rfl⟩⟩)
    | (go_at_call 66; (with_reducible refine (pumiceref02_Right.calls kk rest e _ HE.out).mono ?_); rintro e w' ⟨rfl, ⟨nd, rfl⟩⟩))
  refine bodyPost_ret (results_list (rs := [.tmp 2, .tmp 3, .tmp 4, .tmp 5]) rfl (by simp) (.tmp (.tmp (.tmp (.tmp .nil))))) rfl ?_
  exact ⟨rfl, by repeat (first | exact Below.refl _ _ | apply pw_below_drewN | apply below_drew1)⟩
set_option maxHeartbeats 8000000 in
set_option maxRecDepth 100000 in
theorem rkind_o4 (s rest pre : ByteArray) (kk : Nat) (e : Int) (w : World) (h3 : 3 ≤ s.size) (hrest : s.extract 3 s.size = rest) (hpre : s.extract 0 3 = pre)
    (f0 : (num2 s == 0) = true) (f1 : (num2 s != 0) = false) (f2 : goodInoB (num2 s) = false) (f3 : (bt s 2 == 4) = false) (f4 : (bt s 2 != 4) = true) : Calls Try.prog 62 #[.string s] w fun e w' => e = .returned (.tuple #[.int .i64 0, .int .i64 0, .string ⟨#[]⟩, .int .i64 0]) ∧ Below w.heap.size w w' := by
  have h2 : 2 ≤ s.size := by omega
  have a1 : decide ((s.size : Int) < 3) = false := decide_eq_false (by omega)
  have a2 : decide (s.size < 3) = false := decide_eq_false (by omega)
  have b0 : (3 ≤ (s.size : Int)) = True := eq_true (by omega)
  have b1 : decide (3 ≤ (s.size : Int)) = true := decide_eq_true (by omega)
  have b2 : (2 < s.size) = True := eq_true (by omega)
  have b3 : (2 < (s.size : Int)) = True := eq_true (by omega)
  have hx : ∀ h : 2 < s.size, ((s[2]'h).toNat : Int) = bt s 2 := bt_at s 2
  obtain ⟨r0, r1⟩ := bt_range s 2
  go_enter Try.func62, Try.ntmps62
  go_wp2_with (first
    | (go_at_call 73; (with_reducible refine (rnum_calls _ _ (by assumption)).mono ?_); rintro e w' ⟨rfl, ⟨nd, rfl⟩⟩)
    | (go_at_call 65; (with_reducible refine (rgood_calls _ _).mono ?_); rintro e w' ⟨rfl, ⟨nd, rfl⟩⟩)
    | (go_at_call 66; (with_reducible refine (pumiceref02_Right.calls kk rest e _ HE.out).mono ?_); rintro e w' ⟨rfl, ⟨nd, rfl⟩⟩))
  refine bodyPost_ret (results_list (rs := [.tmp 2, .tmp 3, .tmp 4, .tmp 5]) rfl (by simp) (.tmp (.tmp (.tmp (.tmp .nil))))) rfl ?_
  exact ⟨rfl, by repeat (first | exact Below.refl _ _ | apply pw_below_drewN | apply below_drew1)⟩
set_option maxHeartbeats 8000000 in
set_option maxRecDepth 100000 in
theorem rkind_b1 (s rest pre : ByteArray) (kk : Nat) (e : Int) (w : World) (h3 : 3 ≤ s.size) (hrest : s.extract 3 s.size = rest) (hpre : s.extract 0 3 = pre)
    (f0 : (num2 s == 0) = false) (f1 : (num2 s != 0) = true) (f2 : goodInoB (num2 s) = false) : Calls Try.prog 62 #[.string s] w fun e w' => e = .returned (.tuple #[.int .i64 0, .int .i64 0, .string ⟨#[]⟩, .int .i64 0]) ∧ Below w.heap.size w w' := by
  have h2 : 2 ≤ s.size := by omega
  have a1 : decide ((s.size : Int) < 3) = false := decide_eq_false (by omega)
  have a2 : decide (s.size < 3) = false := decide_eq_false (by omega)
  have b0 : (3 ≤ (s.size : Int)) = True := eq_true (by omega)
  have b1 : decide (3 ≤ (s.size : Int)) = true := decide_eq_true (by omega)
  have b2 : (2 < s.size) = True := eq_true (by omega)
  have b3 : (2 < (s.size : Int)) = True := eq_true (by omega)
  have hx : ∀ h : 2 < s.size, ((s[2]'h).toNat : Int) = bt s 2 := bt_at s 2
  obtain ⟨r0, r1⟩ := bt_range s 2
  go_enter Try.func62, Try.ntmps62
  go_wp2_with (first
    | (go_at_call 73; (with_reducible refine (rnum_calls _ _ (by assumption)).mono ?_); rintro e w' ⟨rfl, ⟨nd, rfl⟩⟩)
    | (go_at_call 65; (with_reducible refine (rgood_calls _ _).mono ?_); rintro e w' ⟨rfl, ⟨nd, rfl⟩⟩)
    | (go_at_call 66; (with_reducible refine (pumiceref02_Right.calls kk rest e _ HE.out).mono ?_); rintro e w' ⟨rfl, ⟨nd, rfl⟩⟩))
  refine bodyPost_ret (results_list (rs := [.tmp 2, .tmp 3, .tmp 4, .tmp 5]) rfl (by simp) (.tmp (.tmp (.tmp (.tmp .nil))))) rfl ?_
  exact ⟨rfl, by repeat (first | exact Below.refl _ _ | apply pw_below_drewN | apply below_drew1)⟩
set_option maxHeartbeats 8000000 in
set_option maxRecDepth 100000 in
theorem rkind_i1 (s rest pre : ByteArray) (kk : Nat) (e : Int) (w : World) (h3 : 3 ≤ s.size) (hrest : s.extract 3 s.size = rest) (hpre : s.extract 0 3 = pre)
    (f0 : (num2 s == 0) = false) (f1 : (num2 s != 0) = true) (f2 : goodInoB (num2 s) = true) (f3 : (bt s 2 == 1) = true) (f4 : (bt s 2 != 1) = false) (f5 : (rest.toList == ([] : List UInt8)) = true) (f6 : (rest.toList != ([] : List UInt8)) = false) (f7 : rest.toList.isEmpty = true) (f8 : (!rest.toList.isEmpty) = false) : Calls Try.prog 62 #[.string s] w fun e w' => e = .returned (.tuple #[.int .i64 1, .int .i64 (num2 s), .string ⟨#[]⟩, .int .i64 0]) ∧ Below w.heap.size w w' := by
  have h2 : 2 ≤ s.size := by omega
  have a1 : decide ((s.size : Int) < 3) = false := decide_eq_false (by omega)
  have a2 : decide (s.size < 3) = false := decide_eq_false (by omega)
  have b0 : (3 ≤ (s.size : Int)) = True := eq_true (by omega)
  have b1 : decide (3 ≤ (s.size : Int)) = true := decide_eq_true (by omega)
  have b2 : (2 < s.size) = True := eq_true (by omega)
  have b3 : (2 < (s.size : Int)) = True := eq_true (by omega)
  have hx : ∀ h : 2 < s.size, ((s[2]'h).toNat : Int) = bt s 2 := bt_at s 2
  obtain ⟨r0, r1⟩ := bt_range s 2
  go_enter Try.func62, Try.ntmps62
  go_wp2_with (first
    | (go_at_call 73; (with_reducible refine (rnum_calls _ _ (by assumption)).mono ?_); rintro e w' ⟨rfl, ⟨nd, rfl⟩⟩)
    | (go_at_call 65; (with_reducible refine (rgood_calls _ _).mono ?_); rintro e w' ⟨rfl, ⟨nd, rfl⟩⟩)
    | (go_at_call 66; (with_reducible refine (pumiceref02_Right.calls kk rest e _ HE.out).mono ?_); rintro e w' ⟨rfl, ⟨nd, rfl⟩⟩))
  refine bodyPost_ret (results_list (rs := [.tmp 2, .tmp 3, .tmp 4, .tmp 5]) rfl (by simp) (.tmp (.tmp (.tmp (.tmp .nil))))) rfl ?_
  exact ⟨rfl, by repeat (first | exact Below.refl _ _ | apply pw_below_drewN | apply below_drew1)⟩
set_option maxHeartbeats 8000000 in
set_option maxRecDepth 100000 in
theorem rkind_i2 (s rest pre : ByteArray) (kk : Nat) (e : Int) (w : World) (h3 : 3 ≤ s.size) (hrest : s.extract 3 s.size = rest) (hpre : s.extract 0 3 = pre)
    (f0 : (num2 s == 0) = false) (f1 : (num2 s != 0) = true) (f2 : goodInoB (num2 s) = true) (f3 : (bt s 2 == 1) = true) (f4 : (bt s 2 != 1) = false) (f5 : (bt s 2 == 2) = false) (f6 : (bt s 2 != 2) = true) (f7 : (bt s 2 == 3) = false) (f8 : (bt s 2 != 3) = true) (f9 : (rest.toList == ([] : List UInt8)) = false) (f10 : (rest.toList != ([] : List UInt8)) = true) (f11 : rest.toList.isEmpty = false) (f12 : (!rest.toList.isEmpty) = true) : Calls Try.prog 62 #[.string s] w fun e w' => e = .returned (.tuple #[.int .i64 0, .int .i64 0, .string ⟨#[]⟩, .int .i64 0]) ∧ Below w.heap.size w w' := by
  have h2 : 2 ≤ s.size := by omega
  have a1 : decide ((s.size : Int) < 3) = false := decide_eq_false (by omega)
  have a2 : decide (s.size < 3) = false := decide_eq_false (by omega)
  have b0 : (3 ≤ (s.size : Int)) = True := eq_true (by omega)
  have b1 : decide (3 ≤ (s.size : Int)) = true := decide_eq_true (by omega)
  have b2 : (2 < s.size) = True := eq_true (by omega)
  have b3 : (2 < (s.size : Int)) = True := eq_true (by omega)
  have hx : ∀ h : 2 < s.size, ((s[2]'h).toNat : Int) = bt s 2 := bt_at s 2
  obtain ⟨r0, r1⟩ := bt_range s 2
  go_enter Try.func62, Try.ntmps62
  go_wp2_with (first
    | (go_at_call 73; (with_reducible refine (rnum_calls _ _ (by assumption)).mono ?_); rintro e w' ⟨rfl, ⟨nd, rfl⟩⟩)
    | (go_at_call 65; (with_reducible refine (rgood_calls _ _).mono ?_); rintro e w' ⟨rfl, ⟨nd, rfl⟩⟩)
    | (go_at_call 66; (with_reducible refine (pumiceref02_Right.calls kk rest e _ HE.out).mono ?_); rintro e w' ⟨rfl, ⟨nd, rfl⟩⟩))
  refine bodyPost_ret (results_list (rs := [.tmp 2, .tmp 3, .tmp 4, .tmp 5]) rfl (by simp) (.tmp (.tmp (.tmp (.tmp .nil))))) rfl ?_
  exact ⟨rfl, by repeat (first | exact Below.refl _ _ | apply pw_below_drewN | apply below_drew1)⟩
set_option maxHeartbeats 8000000 in
set_option maxRecDepth 100000 in
theorem rkind_e1 (s rest pre : ByteArray) (kk : Nat) (e : Int) (w : World) (h3 : 3 ≤ s.size) (hrest : s.extract 3 s.size = rest) (hpre : s.extract 0 3 = pre) (hR : pumiceref02_Right.f kk rest = some e)
    (f0 : (num2 s == 0) = false) (f1 : (num2 s != 0) = true) (f2 : goodInoB (num2 s) = true) (f3 : (bt s 2 == 1) = false) (f4 : (bt s 2 != 1) = true) (f5 : (bt s 2 == 2) = true) (f6 : (bt s 2 != 2) = false) (f7 : (e == 0) = true) (f8 : (e != 0) = false) : Calls Try.prog 62 #[.string s] w fun e w' => e = .returned (.tuple #[.int .i64 2, .int .i64 (num2 s), .string rest, .int .i64 0]) ∧ Below w.heap.size w w' := by
  have h2 : 2 ≤ s.size := by omega
  have a1 : decide ((s.size : Int) < 3) = false := decide_eq_false (by omega)
  have a2 : decide (s.size < 3) = false := decide_eq_false (by omega)
  have b0 : (3 ≤ (s.size : Int)) = True := eq_true (by omega)
  have b1 : decide (3 ≤ (s.size : Int)) = true := decide_eq_true (by omega)
  have b2 : (2 < s.size) = True := eq_true (by omega)
  have b3 : (2 < (s.size : Int)) = True := eq_true (by omega)
  have hx : ∀ h : 2 < s.size, ((s[2]'h).toNat : Int) = bt s 2 := bt_at s 2
  obtain ⟨r0, r1⟩ := bt_range s 2
  have HE := Aside0.mk hR
  clear hR
  go_enter Try.func62, Try.ntmps62
  go_wp2_with (first
    | (go_at_call 73; (with_reducible refine (rnum_calls _ _ (by assumption)).mono ?_); rintro e w' ⟨rfl, ⟨nd, rfl⟩⟩)
    | (go_at_call 65; (with_reducible refine (rgood_calls _ _).mono ?_); rintro e w' ⟨rfl, ⟨nd, rfl⟩⟩)
    | (go_at_call 66; (with_reducible refine (pumiceref02_Right.calls kk rest e _ HE.out).mono ?_); rintro e w' ⟨rfl, ⟨nd, rfl⟩⟩))
  refine bodyPost_ret (results_list (rs := [.tmp 2, .tmp 3, .tmp 4, .tmp 5]) rfl (by simp) (.tmp (.tmp (.tmp (.tmp .nil))))) rfl ?_
  exact ⟨rfl, by repeat (first | exact Below.refl _ _ | exact ⟨hb1.os, hb1.tape, hb1.output, hb1.size, hb1.block⟩ | apply pw_below_drewN | apply below_drew1)⟩
set_option maxHeartbeats 8000000 in
set_option maxRecDepth 100000 in
theorem rkind_e2 (s rest pre : ByteArray) (kk : Nat) (e : Int) (w : World) (h3 : 3 ≤ s.size) (hrest : s.extract 3 s.size = rest) (hpre : s.extract 0 3 = pre) (hR : pumiceref02_Right.f kk rest = some e)
    (f0 : (num2 s == 0) = false) (f1 : (num2 s != 0) = true) (f2 : goodInoB (num2 s) = true) (f3 : (bt s 2 == 1) = false) (f4 : (bt s 2 != 1) = true) (f5 : (bt s 2 == 2) = true) (f6 : (bt s 2 != 2) = false) (f7 : (bt s 2 == 3) = false) (f8 : (bt s 2 != 3) = true) (f9 : (e == 0) = false) (f10 : (e != 0) = true) : Calls Try.prog 62 #[.string s] w fun e w' => e = .returned (.tuple #[.int .i64 0, .int .i64 0, .string ⟨#[]⟩, .int .i64 0]) ∧ Below w.heap.size w w' := by
  have h2 : 2 ≤ s.size := by omega
  have a1 : decide ((s.size : Int) < 3) = false := decide_eq_false (by omega)
  have a2 : decide (s.size < 3) = false := decide_eq_false (by omega)
  have b0 : (3 ≤ (s.size : Int)) = True := eq_true (by omega)
  have b1 : decide (3 ≤ (s.size : Int)) = true := decide_eq_true (by omega)
  have b2 : (2 < s.size) = True := eq_true (by omega)
  have b3 : (2 < (s.size : Int)) = True := eq_true (by omega)
  have hx : ∀ h : 2 < s.size, ((s[2]'h).toNat : Int) = bt s 2 := bt_at s 2
  obtain ⟨r0, r1⟩ := bt_range s 2
  have HE := Aside0.mk hR
  clear hR
  go_enter Try.func62, Try.ntmps62
  go_wp2_with (first
    | (go_at_call 73; (with_reducible refine (rnum_calls _ _ (by assumption)).mono ?_); rintro e w' ⟨rfl, ⟨nd, rfl⟩⟩)
    | (go_at_call 65; (with_reducible refine (rgood_calls _ _).mono ?_); rintro e w' ⟨rfl, ⟨nd, rfl⟩⟩)
    | (go_at_call 66; (with_reducible refine (pumiceref02_Right.calls kk rest e _ HE.out).mono ?_); rintro e w' ⟨rfl, ⟨nd, rfl⟩⟩))
  refine bodyPost_ret (results_list (rs := [.tmp 2, .tmp 3, .tmp 4, .tmp 5]) rfl (by simp) (.tmp (.tmp (.tmp (.tmp .nil))))) rfl ?_
  exact ⟨rfl, by repeat (first | exact Below.refl _ _ | exact ⟨hb1.os, hb1.tape, hb1.output, hb1.size, hb1.block⟩ | apply pw_below_drewN | apply below_drew1)⟩
set_option maxHeartbeats 8000000 in
set_option maxRecDepth 100000 in
theorem rkind_k1 (s rest pre : ByteArray) (kk : Nat) (e : Int) (w : World) (h3 : 3 ≤ s.size) (hrest : s.extract 3 s.size = rest) (hpre : s.extract 0 3 = pre) (hr2 : 2 ≤ rest.size)
    (f0 : (num2 s == 0) = false) (f1 : (num2 s != 0) = true) (f2 : goodInoB (num2 s) = true) (f3 : (bt s 2 == 1) = false) (f4 : (bt s 2 != 1) = true) (f5 : (bt s 2 == 2) = false) (f6 : (bt s 2 != 2) = true) (f7 : (bt s 2 == 3) = true) (f8 : (bt s 2 != 3) = false) (f9 : ((rest.size : Int) == 2) = true) (f10 : ((rest.size : Int) != 2) = false) (f11 : (rest.size == 2) = true) (f12 : (rest.size != 2) = false) (f13 : decide (num2 rest < 128) = true) : Calls Try.prog 62 #[.string s] w fun e w' => e = .returned (.tuple #[.int .i64 3, .int .i64 (num2 s), .string ⟨#[]⟩, .int .i64 (num2 rest)]) ∧ Below w.heap.size w w' := by
  have h2 : 2 ≤ s.size := by omega
  have a1 : decide ((s.size : Int) < 3) = false := decide_eq_false (by omega)
  have a2 : decide (s.size < 3) = false := decide_eq_false (by omega)
  have b0 : (3 ≤ (s.size : Int)) = True := eq_true (by omega)
  have b1 : decide (3 ≤ (s.size : Int)) = true := decide_eq_true (by omega)
  have b2 : (2 < s.size) = True := eq_true (by omega)
  have b3 : (2 < (s.size : Int)) = True := eq_true (by omega)
  have hx : ∀ h : 2 < s.size, ((s[2]'h).toNat : Int) = bt s 2 := bt_at s 2
  obtain ⟨r0, r1⟩ := bt_range s 2
  go_enter Try.func62, Try.ntmps62
  go_wp2_with (first
    | (go_at_call 73; (with_reducible refine (rnum_calls _ _ (by assumption)).mono ?_); rintro e w' ⟨rfl, ⟨nd, rfl⟩⟩)
    | (go_at_call 65; (with_reducible refine (rgood_calls _ _).mono ?_); rintro e w' ⟨rfl, ⟨nd, rfl⟩⟩)
    | (go_at_call 66; (with_reducible refine (pumiceref02_Right.calls kk rest e _ HE.out).mono ?_); rintro e w' ⟨rfl, ⟨nd, rfl⟩⟩))
  refine bodyPost_ret (results_list (rs := [.tmp 2, .tmp 3, .tmp 4, .tmp 5]) rfl (by simp) (.tmp (.tmp (.tmp (.tmp .nil))))) rfl ?_
  exact ⟨rfl, by repeat (first | exact Below.refl _ _ | apply pw_below_drewN | apply below_drew1)⟩
set_option maxHeartbeats 8000000 in
set_option maxRecDepth 100000 in
theorem rkind_k2 (s rest pre : ByteArray) (kk : Nat) (e : Int) (w : World) (h3 : 3 ≤ s.size) (hrest : s.extract 3 s.size = rest) (hpre : s.extract 0 3 = pre) (hr2 : 2 ≤ rest.size)
    (f0 : (num2 s == 0) = false) (f1 : (num2 s != 0) = true) (f2 : goodInoB (num2 s) = true) (f3 : (bt s 2 == 1) = false) (f4 : (bt s 2 != 1) = true) (f5 : (bt s 2 == 2) = false) (f6 : (bt s 2 != 2) = true) (f7 : (bt s 2 == 3) = true) (f8 : (bt s 2 != 3) = false) (f9 : ((rest.size : Int) == 2) = true) (f10 : ((rest.size : Int) != 2) = false) (f11 : (rest.size == 2) = true) (f12 : (rest.size != 2) = false) (f13 : decide (num2 rest < 128) = false) : Calls Try.prog 62 #[.string s] w fun e w' => e = .returned (.tuple #[.int .i64 0, .int .i64 0, .string ⟨#[]⟩, .int .i64 0]) ∧ Below w.heap.size w w' := by
  have h2 : 2 ≤ s.size := by omega
  have a1 : decide ((s.size : Int) < 3) = false := decide_eq_false (by omega)
  have a2 : decide (s.size < 3) = false := decide_eq_false (by omega)
  have b0 : (3 ≤ (s.size : Int)) = True := eq_true (by omega)
  have b1 : decide (3 ≤ (s.size : Int)) = true := decide_eq_true (by omega)
  have b2 : (2 < s.size) = True := eq_true (by omega)
  have b3 : (2 < (s.size : Int)) = True := eq_true (by omega)
  have hx : ∀ h : 2 < s.size, ((s[2]'h).toNat : Int) = bt s 2 := bt_at s 2
  obtain ⟨r0, r1⟩ := bt_range s 2
  go_enter Try.func62, Try.ntmps62
  go_wp2_with (first
    | (go_at_call 73; (with_reducible refine (rnum_calls _ _ (by assumption)).mono ?_); rintro e w' ⟨rfl, ⟨nd, rfl⟩⟩)
    | (go_at_call 65; (with_reducible refine (rgood_calls _ _).mono ?_); rintro e w' ⟨rfl, ⟨nd, rfl⟩⟩)
    | (go_at_call 66; (with_reducible refine (pumiceref02_Right.calls kk rest e _ HE.out).mono ?_); rintro e w' ⟨rfl, ⟨nd, rfl⟩⟩))
  refine bodyPost_ret (results_list (rs := [.tmp 2, .tmp 3, .tmp 4, .tmp 5]) rfl (by simp) (.tmp (.tmp (.tmp (.tmp .nil))))) rfl ?_
  exact ⟨rfl, by repeat (first | exact Below.refl _ _ | apply pw_below_drewN | apply below_drew1)⟩
set_option maxHeartbeats 8000000 in
set_option maxRecDepth 100000 in
theorem rkind_k3 (s rest pre : ByteArray) (kk : Nat) (e : Int) (w : World) (h3 : 3 ≤ s.size) (hrest : s.extract 3 s.size = rest) (hpre : s.extract 0 3 = pre)
    (f0 : (num2 s == 0) = false) (f1 : (num2 s != 0) = true) (f2 : goodInoB (num2 s) = true) (f3 : (bt s 2 == 1) = false) (f4 : (bt s 2 != 1) = true) (f5 : (bt s 2 == 2) = false) (f6 : (bt s 2 != 2) = true) (f7 : (bt s 2 == 3) = true) (f8 : (bt s 2 != 3) = false) (f9 : ((rest.size : Int) == 2) = false) (f10 : ((rest.size : Int) != 2) = true) (f11 : (rest.size == 2) = false) (f12 : (rest.size != 2) = true) : Calls Try.prog 62 #[.string s] w fun e w' => e = .returned (.tuple #[.int .i64 0, .int .i64 0, .string ⟨#[]⟩, .int .i64 0]) ∧ Below w.heap.size w w' := by
  have h2 : 2 ≤ s.size := by omega
  have a1 : decide ((s.size : Int) < 3) = false := decide_eq_false (by omega)
  have a2 : decide (s.size < 3) = false := decide_eq_false (by omega)
  have b0 : (3 ≤ (s.size : Int)) = True := eq_true (by omega)
  have b1 : decide (3 ≤ (s.size : Int)) = true := decide_eq_true (by omega)
  have b2 : (2 < s.size) = True := eq_true (by omega)
  have b3 : (2 < (s.size : Int)) = True := eq_true (by omega)
  have hx : ∀ h : 2 < s.size, ((s[2]'h).toNat : Int) = bt s 2 := bt_at s 2
  obtain ⟨r0, r1⟩ := bt_range s 2
  go_enter Try.func62, Try.ntmps62
  go_wp2_with (first
    | (go_at_call 73; (with_reducible refine (rnum_calls _ _ (by assumption)).mono ?_); rintro e w' ⟨rfl, ⟨nd, rfl⟩⟩)
    | (go_at_call 65; (with_reducible refine (rgood_calls _ _).mono ?_); rintro e w' ⟨rfl, ⟨nd, rfl⟩⟩)
    | (go_at_call 66; (with_reducible refine (pumiceref02_Right.calls kk rest e _ HE.out).mono ?_); rintro e w' ⟨rfl, ⟨nd, rfl⟩⟩))
  refine bodyPost_ret (results_list (rs := [.tmp 2, .tmp 3, .tmp 4, .tmp 5]) rfl (by simp) (.tmp (.tmp (.tmp (.tmp .nil))))) rfl ?_
  exact ⟨rfl, by repeat (first | exact Below.refl _ _ | apply pw_below_drewN | apply below_drew1)⟩
set_option maxHeartbeats 8000000 in
set_option maxRecDepth 100000 in
theorem rkind_z1 (s rest pre : ByteArray) (kk : Nat) (e : Int) (w : World) (h3 : 3 ≤ s.size) (hrest : s.extract 3 s.size = rest) (hpre : s.extract 0 3 = pre)
    (f0 : (num2 s == 0) = false) (f1 : (num2 s != 0) = true) (f2 : goodInoB (num2 s) = true) (f3 : (bt s 2 == 1) = false) (f4 : (bt s 2 != 1) = true) (f5 : (bt s 2 == 2) = false) (f6 : (bt s 2 != 2) = true) (f7 : (bt s 2 == 3) = false) (f8 : (bt s 2 != 3) = true) : Calls Try.prog 62 #[.string s] w fun e w' => e = .returned (.tuple #[.int .i64 0, .int .i64 0, .string ⟨#[]⟩, .int .i64 0]) ∧ Below w.heap.size w w' := by
  have h2 : 2 ≤ s.size := by omega
  have a1 : decide ((s.size : Int) < 3) = false := decide_eq_false (by omega)
  have a2 : decide (s.size < 3) = false := decide_eq_false (by omega)
  have b0 : (3 ≤ (s.size : Int)) = True := eq_true (by omega)
  have b1 : decide (3 ≤ (s.size : Int)) = true := decide_eq_true (by omega)
  have b2 : (2 < s.size) = True := eq_true (by omega)
  have b3 : (2 < (s.size : Int)) = True := eq_true (by omega)
  have hx : ∀ h : 2 < s.size, ((s[2]'h).toNat : Int) = bt s 2 := bt_at s 2
  obtain ⟨r0, r1⟩ := bt_range s 2
  go_enter Try.func62, Try.ntmps62
  go_wp2_with (first
    | (go_at_call 73; (with_reducible refine (rnum_calls _ _ (by assumption)).mono ?_); rintro e w' ⟨rfl, ⟨nd, rfl⟩⟩)
    | (go_at_call 65; (with_reducible refine (rgood_calls _ _).mono ?_); rintro e w' ⟨rfl, ⟨nd, rfl⟩⟩)
    | (go_at_call 66; (with_reducible refine (pumiceref02_Right.calls kk rest e _ HE.out).mono ?_); rintro e w' ⟨rfl, ⟨nd, rfl⟩⟩))
  refine bodyPost_ret (results_list (rs := [.tmp 2, .tmp 3, .tmp 4, .tmp 5]) rfl (by simp) (.tmp (.tmp (.tmp (.tmp .nil))))) rfl ?_
  exact ⟨rfl, by repeat (first | exact Below.refl _ _ | apply pw_below_drewN | apply below_drew1)⟩
def pumiceref06_Kind.f (s : ByteArray) : Option (Int × Int × ByteArray × Int) :=
  if s.size < 3 then some (0, 0, ⟨#[]⟩, 0) else (pumiceref02_Right.f (s.extract 3 s.size).size.succ.succ (s.extract 3 s.size)).bind fun e => some (kindK ((num2 s == 0) && (bt s 2 == 4)) e (num2 s) (bt s 2) (s.extract 3 s.size))
theorem pumiceref06_Kind.calls (s : ByteArray) (r1 : Int) (r2 : Int) (r3 : ByteArray) (r4 : Int) (w : World) (h : pumiceref06_Kind.f s = some (r1, r2, r3, r4)) :
    Calls Try.prog 62 #[.string s] w fun e w' => e = .returned (.tuple #[.int .i64 r1, .int .i64 r2, .string r3, .int .i64 r4]) ∧ Below w.heap.size w w' := by
  unfold pumiceref06_Kind.f at h
  by_cases h3 : s.size < 3
  · rw [if_pos h3] at h
    simp only [Option.some.injEq, Prod.mk.injEq] at h
    obtain ⟨rfl, rfl, rfl, rfl⟩ := h
    exact rkind_s s w h3
  rw [if_neg h3] at h
  obtain ⟨e, he, h⟩ := Option.bind_eq_some_iff.mp h
  replace h := Option.some.inj h
  obtain ⟨rest, hrest⟩ : ∃ rest, s.extract 3 s.size = rest := ⟨_, rfl⟩
  obtain ⟨pre, hpre⟩ : ∃ pre, s.extract 0 3 = pre := ⟨_, rfl⟩
  rw [hrest] at he
  simp only [hrest, hpre] at h
  have h3' : 3 ≤ s.size := by omega
  have hB : ∀ (a b : Int), a = b → (a == b) = true ∧ (a != b) = false := fun a b h => by subst h; simp
  have hN : ∀ (a b : Int), ¬ a = b → (a == b) = false ∧ (a != b) = true := fun a b h => by simp [h]
  have hBn : ∀ (a b : Nat), a = b → (a == b) = true ∧ (a != b) = false := fun a b h => by subst h; simp
  have hNn : ∀ (a b : Nat), ¬ a = b → (a == b) = false ∧ (a != b) = true := fun a b h => by simp [h]
  by_cases hn : num2 s = 0
  · have hg : goodInoB (num2 s) = false := by rw [hn]; rfl
    by_cases ho : bt s 2 = 4
    · by_cases h2 : rest.size = 2
      · have h2' : (rest.size : Int) = 2 := by omega
        by_cases hg2 : goodInoB (num2 rest) = true
        · simp [kindK, hn, ho, h2, hg2] at h
          obtain ⟨rfl, rfl, rfl, rfl⟩ := h
          exact rkind_o1 s rest pre rest.size.succ.succ 0 w h3' hrest hpre (by omega) (hB _ _ hn).1 (hB _ _ hn).2 (hB _ _ ho).1 (hB _ _ ho).2 (hB _ _ h2').1 (hB _ _ h2').2 (hBn _ _ h2).1 (hBn _ _ h2).2 hg2
        · replace hg2 : goodInoB (num2 rest) = false := Bool.eq_false_iff.mpr hg2
          simp [kindK, hn, ho, h2, hg2, goodInoB_zero] at h
          obtain ⟨rfl, rfl, rfl, rfl⟩ := h
          exact rkind_o2 s rest pre rest.size.succ.succ 0 w h3' hrest hpre (by omega) (hB _ _ hn).1 (hB _ _ hn).2 hg (hB _ _ ho).1 (hB _ _ ho).2 (hB _ _ h2').1 (hB _ _ h2').2 (hBn _ _ h2).1 (hBn _ _ h2).2 hg2
      · have h2' : ¬ (rest.size : Int) = 2 := by omega
        simp [kindK, hn, ho, h2, goodInoB_zero] at h
        obtain ⟨rfl, rfl, rfl, rfl⟩ := h
        exact rkind_o3 s rest pre rest.size.succ.succ 0 w h3' hrest hpre (hB _ _ hn).1 (hB _ _ hn).2 hg (hB _ _ ho).1 (hB _ _ ho).2 (hN _ _ h2').1 (hN _ _ h2').2 (hNn _ _ h2).1 (hNn _ _ h2).2
    · simp [kindK, hn, ho, goodInoB_zero] at h
      obtain ⟨rfl, rfl, rfl, rfl⟩ := h
      exact rkind_o4 s rest pre rest.size.succ.succ 0 w h3' hrest hpre (hB _ _ hn).1 (hB _ _ hn).2 hg (hN _ _ ho).1 (hN _ _ ho).2
  by_cases hg : goodInoB (num2 s) = true
  rotate_left
  · replace hg : goodInoB (num2 s) = false := Bool.eq_false_iff.mpr hg
    simp [kindK, hn, hg] at h
    obtain ⟨rfl, rfl, rfl, rfl⟩ := h
    exact rkind_b1 s rest pre rest.size.succ.succ 0 w h3' hrest hpre (hN _ _ hn).1 (hN _ _ hn).2 hg
  · by_cases hb1 : bt s 2 = 1
    · have hb2 : ¬ bt s 2 = 2 := by omega
      have hb3 : ¬ bt s 2 = 3 := by omega
      by_cases hz : rest.size = 0
      · simp only [kindK, hn, hg, hb1, hz] at h
        simp [hn] at h
        obtain ⟨rfl, rfl, rfl, rfl⟩ := h
        exact rkind_i1 s rest pre rest.size.succ.succ 0 w h3' hrest hpre (hN _ _ hn).1 (hN _ _ hn).2 hg (hB _ _ hb1).1 (hB _ _ hb1).2 (by rw [empty_list]; simp [hz]) (by rw [bne, empty_list]; simp [hz]) (by rw [isEmpty_eq]; simp [hz]) (by rw [isEmpty_eq]; simp [hz])
      · simp only [kindK, hn, hg, hb1, hz] at h
        simp [hn] at h
        obtain ⟨rfl, rfl, rfl, rfl⟩ := h
        exact rkind_i2 s rest pre rest.size.succ.succ 0 w h3' hrest hpre (hN _ _ hn).1 (hN _ _ hn).2 hg (hB _ _ hb1).1 (hB _ _ hb1).2 (hN _ _ hb2).1 (hN _ _ hb2).2 (hN _ _ hb3).1 (hN _ _ hb3).2 (by rw [empty_list]; simp [hz]) (by rw [bne, empty_list]; simp [hz]) (by rw [isEmpty_eq]; simp [hz]) (by rw [isEmpty_eq]; simp [hz])
    by_cases hb2 : bt s 2 = 2
    · have hb3 : ¬ bt s 2 = 3 := by omega
      by_cases h0 : e = 0
      · simp [kindK, hn, hg, hb2, h0] at h
        obtain ⟨rfl, rfl, rfl, rfl⟩ := h
        exact rkind_e1 s rest pre rest.size.succ.succ e w h3' hrest hpre he (hN _ _ hn).1 (hN _ _ hn).2 hg (hN _ _ hb1).1 (hN _ _ hb1).2 (hB _ _ hb2).1 (hB _ _ hb2).2 (hB _ _ h0).1 (hB _ _ h0).2
      · simp [kindK, hn, hg, hb2, h0] at h
        obtain ⟨rfl, rfl, rfl, rfl⟩ := h
        exact rkind_e2 s rest pre rest.size.succ.succ e w h3' hrest hpre he (hN _ _ hn).1 (hN _ _ hn).2 hg (hN _ _ hb1).1 (hN _ _ hb1).2 (hB _ _ hb2).1 (hB _ _ hb2).2 (hN _ _ hb3).1 (hN _ _ hb3).2 (hN _ _ h0).1 (hN _ _ h0).2
    by_cases hb3 : bt s 2 = 3
    · by_cases h2 : rest.size = 2
      · have h2' : (rest.size : Int) = 2 := by omega
        by_cases hk : goodBlockB (num2 rest) = true
        · simp [kindK, hn, hg, hb3, h2, hk] at h
          obtain ⟨rfl, rfl, rfl, rfl⟩ := h
          have hk' : decide (num2 rest < 128) = true := by
            have := num2_range rest
            simp [goodBlockB] at hk
            simp; omega
          exact rkind_k1 s rest pre rest.size.succ.succ 0 w h3' hrest hpre (by omega) (hN _ _ hn).1 (hN _ _ hn).2 hg (hN _ _ hb1).1 (hN _ _ hb1).2 (hN _ _ hb2).1 (hN _ _ hb2).2 (hB _ _ hb3).1 (hB _ _ hb3).2 (hB _ _ h2').1 (hB _ _ h2').2 (hBn _ _ h2).1 (hBn _ _ h2).2 hk'
        · replace hk : goodBlockB (num2 rest) = false := Bool.eq_false_iff.mpr hk
          simp [kindK, hn, hg, hb3, h2, hk] at h
          obtain ⟨rfl, rfl, rfl, rfl⟩ := h
          have hk' : decide (num2 rest < 128) = false := by
            have := num2_range rest
            simp [goodBlockB] at hk
            simp; omega
          exact rkind_k2 s rest pre rest.size.succ.succ 0 w h3' hrest hpre (by omega) (hN _ _ hn).1 (hN _ _ hn).2 hg (hN _ _ hb1).1 (hN _ _ hb1).2 (hN _ _ hb2).1 (hN _ _ hb2).2 (hB _ _ hb3).1 (hB _ _ hb3).2 (hB _ _ h2').1 (hB _ _ h2').2 (hBn _ _ h2).1 (hBn _ _ h2).2 hk'
      · have h2' : ¬ (rest.size : Int) = 2 := by omega
        simp [kindK, hn, hg, hb3, h2] at h
        obtain ⟨rfl, rfl, rfl, rfl⟩ := h
        exact rkind_k3 s rest pre rest.size.succ.succ 0 w h3' hrest hpre (hN _ _ hn).1 (hN _ _ hn).2 hg (hN _ _ hb1).1 (hN _ _ hb1).2 (hN _ _ hb2).1 (hN _ _ hb2).2 (hB _ _ hb3).1 (hB _ _ hb3).2 (hN _ _ h2').1 (hN _ _ h2').2 (hNn _ _ h2).1 (hNn _ _ h2).2
    simp [kindK, hn, hg, hb1, hb2, hb3] at h
    obtain ⟨rfl, rfl, rfl, rfl⟩ := h
    exact rkind_z1 s rest pre rest.size.succ.succ 0 w h3' hrest hpre (hN _ _ hn).1 (hN _ _ hn).2 hg (hN _ _ hb1).1 (hN _ _ hb1).2 (hN _ _ hb2).1 (hN _ _ hb2).2 (hN _ _ hb3).1 (hN _ _ hb3).2
end Go.Proofs.Ytakchpeohmkpkaa.Q
