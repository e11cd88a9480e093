/- Functions of this seat as plain Lean functions, each with the contract that the machine keeps. No condition. Laid by wip/qprint.py. -/
import Derived.Test.YtfmmmojlnfndkaaDoorQ0
import Derived.Test.YtfmmmojlnfndkaaDoorQ3
namespace Go.Proofs.YtfmmmojlnfndkaaDoor.Q
open Go.RowKit Go.Proofs.YtfmmmojlnfndkaaDoorW.PrintWords Go.Proofs.YtfmmmojlnfndkaaDoorW.PrintLast Go.Proofs.YtfmmmojlnfndkaaDoorW.PrintMore
attribute [local go_sem] max2_int min2_int max_two min_two max_three min_three max_four min_four   -- for this text's walks alone
set_option linter.unusedVariables false
set_option linter.unusedSimpArgs false

/-! ### pumiceref04_Worse: function 31 -/
def pumiceref04_Worse.f (k : Nat) (a0 : Int) (a1 : Int) : Option (Int) := if a0 = 0 then (some a1) else (if a1 = 0 then (some a0) else ((pumiceref04_Class.f k a0).bind fun t118 => ((pumiceref04_Class.f k a1).bind fun t119 => (if t118 < t119 then (some a0) else (if t118 = t119 then (if a0 ≤ a1 then (some a0) else (some a1)) else (some a1))))))
theorem pumiceref04_Worse.mono : ∀ a0 a1 k, LeO (pumiceref04_Worse.f k a0 a1) (pumiceref04_Worse.f (k + 1) a0 a1) := by
  intro a0 a1 k
  unfold pumiceref04_Worse.f
  repeat' first
      | (with_reducible exact pumiceref04_Class.mono _ _)
      | (with_reducible exact LeO.refl _)
      | (with_reducible exact LeO.none _)
      | (with_reducible refine LeO.ite ?_ ?_)
      | (with_reducible refine LeO.bind ?_ (fun _ => ?_))
      | exact pumiceref04_Class.mono _ _
      | exact LeO.none _
      | refine LeO.ite ?_ ?_
      | refine LeO.bind ?_ (fun _ => ?_)
set_option maxHeartbeats 8000000 in
set_option maxRecDepth 100000 in
theorem pumiceref04_Worse.calls (k : Nat) (a0 : Int) (a1 : Int) (r : Int) (w : World) (h : pumiceref04_Worse.f k a0 a1 = some r) :
    Calls Tryd.prog 31 #[.int .i64 a0, .int .i64 a1] w fun e w' => e = .returned (.int .i64 r) ∧ Drawn0 w w' := by
  have H : (if a0 = 0 then (some a1) else (if a1 = 0 then (some a0) else ((pumiceref04_Class.f k a0).bind fun t118 => ((pumiceref04_Class.f k a1).bind fun t119 => (if t118 < t119 then (some a0) else (if t118 = t119 then (if a0 ≤ a1 then (some a0) else (some a1)) else (some a1))))))) = some r := h
  clear h
  by_cases c3 : a0 = 0
  · rw [if_pos c3] at H
    have c3b0 : (a0 == 0) = true := beq_iff_eq.mpr c3
    have c3b1 : (a0 != 0) = false := bne_eq_false_iff_eq.mpr c3
    clear c3
    obtain rfl := Option.some.inj H
    go_enter Tryd.func31, Tryd.ntmps31
    go_wp2
    go_ret
    exact ⟨by first | rfl | exact isEmpty_bne_ _ | (simp; done) | (simp [*]; done) | (simp [wrap64]; done), by repeat (first | exact Drawn0.refl _ | apply Drawn0.step)⟩
  · rw [if_neg c3] at H
    have c3b0 : (a0 == 0) = false := beq_eq_false_iff_ne.mpr c3
    have c3b1 : (a0 != 0) = true := bne_iff_ne.mpr c3
    by_cases c4 : a1 = 0
    · rw [if_pos c4] at H
      have c4b0 : (a1 == 0) = true := beq_iff_eq.mpr c4
      have c4b1 : (a1 != 0) = false := bne_eq_false_iff_eq.mpr c4
      clear c4
      obtain rfl := Option.some.inj H
      go_enter Tryd.func31, Tryd.ntmps31
      go_wp2
      go_ret
      exact ⟨by first | rfl | exact isEmpty_bne_ _ | (simp; done) | (simp [*]; done) | (simp [wrap64]; done), by repeat (first | exact Drawn0.refl _ | apply Drawn0.step)⟩
    · rw [if_neg c4] at H
      have c4b0 : (a1 == 0) = false := beq_eq_false_iff_ne.mpr c4
      have c4b1 : (a1 != 0) = true := bne_iff_ne.mpr c4
      replace H := Option.bind_eq_some_iff.mp H
      obtain ⟨t118, A50, H⟩ := H
      replace H : ((pumiceref04_Class.f k a1).bind fun t119 => (if t118 < t119 then (some a0) else (if t118 = t119 then (if a0 ≤ a1 then (some a0) else (some a1)) else (some a1)))) = some r := H
      have A5 := Aside0.mk A50
      clear A50
      replace H := Option.bind_eq_some_iff.mp H
      obtain ⟨t119, A60, H⟩ := H
      replace H : (if t118 < t119 then (some a0) else (if t118 = t119 then (if a0 ≤ a1 then (some a0) else (some a1)) else (some a1))) = some r := H
      have A6 := Aside0.mk A60
      clear A60
      by_cases c7 : t118 < t119
      · rw [if_pos c7] at H
        have c7b0 : decide (t118 < t119) = true := decide_eq_true c7
        clear c7
        obtain rfl := Option.some.inj H
        go_enter Tryd.func31, Tryd.ntmps31
        go_wp2_with (first | ((with_reducible refine gate_callee (f := 13) rfl ?_); refine goesL_ (some 14) rfl rfl Tryd.func13 (by kernel_rfl) rfl #[.int .i64 a0] rfl (by (try simp only [List.map_toArray, List.map_cons, List.map_nil]); first | done | rfl | (simp only [List.length_drop, List.length_take]; rfl)) ?_; (with_reducible refine (pumiceref04_Class.calls k a0 t118 _ A5.out).mono ?_); rintro e w' ⟨rfl, ⟨nd, rfl⟩⟩; refine ⟨_, rfl, ?_⟩) | ((with_reducible refine gate_callee (f := 13) rfl ?_); refine goesL_ (some 16) rfl rfl Tryd.func13 (by kernel_rfl) rfl #[.int .i64 a1] rfl (by (try simp only [List.map_toArray, List.map_cons, List.map_nil]); first | done | rfl | (simp only [List.length_drop, List.length_take]; rfl)) ?_; (with_reducible refine (pumiceref04_Class.calls k a1 t119 _ A6.out).mono ?_); rintro e w' ⟨rfl, ⟨nd, rfl⟩⟩; refine ⟨_, rfl, ?_⟩))
        go_ret
        exact ⟨by first | rfl | exact isEmpty_bne_ _ | (simp; done) | (simp [*]; done) | (simp [wrap64]; done), by repeat (first | exact Drawn0.refl _ | apply Drawn0.step)⟩
      · rw [if_neg c7] at H
        have c7b0 : decide (t118 < t119) = false := decide_eq_false c7
        clear c7
        by_cases c8 : t118 = t119
        · rw [if_pos c8] at H
          have c8b0 : (t118 == t119) = true := beq_iff_eq.mpr c8
          have c8b1 : (t118 != t119) = false := bne_eq_false_iff_eq.mpr c8
          clear c8
          by_cases c9 : a0 ≤ a1
          · rw [if_pos c9] at H
            have c9b0 : decide (a0 ≤ a1) = true := decide_eq_true c9
            clear c9
            obtain rfl := Option.some.inj H
            go_enter Tryd.func31, Tryd.ntmps31
            go_wp2_with (first | ((with_reducible refine gate_callee (f := 13) rfl ?_); refine goesL_ (some 14) rfl rfl Tryd.func13 (by kernel_rfl) rfl #[.int .i64 a0] rfl (by (try simp only [List.map_toArray, List.map_cons, List.map_nil]); first | done | rfl | (simp only [List.length_drop, List.length_take]; rfl)) ?_; (with_reducible refine (pumiceref04_Class.calls k a0 t118 _ A5.out).mono ?_); rintro e w' ⟨rfl, ⟨nd, rfl⟩⟩; refine ⟨_, rfl, ?_⟩) | ((with_reducible refine gate_callee (f := 13) rfl ?_); refine goesL_ (some 16) rfl rfl Tryd.func13 (by kernel_rfl) rfl #[.int .i64 a1] rfl (by (try simp only [List.map_toArray, List.map_cons, List.map_nil]); first | done | rfl | (simp only [List.length_drop, List.length_take]; rfl)) ?_; (with_reducible refine (pumiceref04_Class.calls k a1 t119 _ A6.out).mono ?_); rintro e w' ⟨rfl, ⟨nd, rfl⟩⟩; refine ⟨_, rfl, ?_⟩))
            go_ret
            exact ⟨by first | rfl | exact isEmpty_bne_ _ | (simp; done) | (simp [*]; done) | (simp [wrap64]; done), by repeat (first | exact Drawn0.refl _ | apply Drawn0.step)⟩
          · rw [if_neg c9] at H
            have c9b0 : decide (a0 ≤ a1) = false := decide_eq_false c9
            clear c9
            obtain rfl := Option.some.inj H
            go_enter Tryd.func31, Tryd.ntmps31
            go_wp2_with (first | ((with_reducible refine gate_callee (f := 13) rfl ?_); refine goesL_ (some 14) rfl rfl Tryd.func13 (by kernel_rfl) rfl #[.int .i64 a0] rfl (by (try simp only [List.map_toArray, List.map_cons, List.map_nil]); first | done | rfl | (simp only [List.length_drop, List.length_take]; rfl)) ?_; (with_reducible refine (pumiceref04_Class.calls k a0 t118 _ A5.out).mono ?_); rintro e w' ⟨rfl, ⟨nd, rfl⟩⟩; refine ⟨_, rfl, ?_⟩) | ((with_reducible refine gate_callee (f := 13) rfl ?_); refine goesL_ (some 16) rfl rfl Tryd.func13 (by kernel_rfl) rfl #[.int .i64 a1] rfl (by (try simp only [List.map_toArray, List.map_cons, List.map_nil]); first | done | rfl | (simp only [List.length_drop, List.length_take]; rfl)) ?_; (with_reducible refine (pumiceref04_Class.calls k a1 t119 _ A6.out).mono ?_); rintro e w' ⟨rfl, ⟨nd, rfl⟩⟩; refine ⟨_, rfl, ?_⟩))
            go_ret
            exact ⟨by first | rfl | exact isEmpty_bne_ _ | (simp; done) | (simp [*]; done) | (simp [wrap64]; done), by repeat (first | exact Drawn0.refl _ | apply Drawn0.step)⟩
        · rw [if_neg c8] at H
          have c8b0 : (t118 == t119) = false := beq_eq_false_iff_ne.mpr c8
          have c8b1 : (t118 != t119) = true := bne_iff_ne.mpr c8
          obtain rfl := Option.some.inj H
          go_enter Tryd.func31, Tryd.ntmps31
          go_wp2_with (first | ((with_reducible refine gate_callee (f := 13) rfl ?_); refine goesL_ (some 14) rfl rfl Tryd.func13 (by kernel_rfl) rfl #[.int .i64 a0] rfl (by (try simp only [List.map_toArray, List.map_cons, List.map_nil]); first | done | rfl | (simp only [List.length_drop, List.length_take]; rfl)) ?_; (with_reducible refine (pumiceref04_Class.calls k a0 t118 _ A5.out).mono ?_); rintro e w' ⟨rfl, ⟨nd, rfl⟩⟩; refine ⟨_, rfl, ?_⟩) | ((with_reducible refine gate_callee (f := 13) rfl ?_); refine goesL_ (some 16) rfl rfl Tryd.func13 (by kernel_rfl) rfl #[.int .i64 a1] rfl (by (try simp only [List.map_toArray, List.map_cons, List.map_nil]); first | done | rfl | (simp only [List.length_drop, List.length_take]; rfl)) ?_; (with_reducible refine (pumiceref04_Class.calls k a1 t119 _ A6.out).mono ?_); rintro e w' ⟨rfl, ⟨nd, rfl⟩⟩; refine ⟨_, rfl, ?_⟩))
          go_ret
          exact ⟨by first | rfl | exact isEmpty_bne_ _ | (simp; done) | (simp [*]; done) | (simp [wrap64]; done), by repeat (first | exact Drawn0.refl _ | apply Drawn0.step)⟩

/-! ### pumiceref04_Rows: function 33 -/
def pumiceref04_Rows.f  : Option ((List (S70))) := some (([(⟨0, (⟨#[79, 75]⟩ : ByteArray)⟩ : S70), (⟨1, (⟨#[69, 80, 69, 82, 77]⟩ : ByteArray)⟩ : S70), (⟨2, (⟨#[69, 78, 79, 69, 78, 84]⟩ : ByteArray)⟩ : S70), (⟨5, (⟨#[69, 73, 79]⟩ : ByteArray)⟩ : S70), (⟨6, (⟨#[69, 78, 88, 73, 79]⟩ : ByteArray)⟩ : S70), (⟨9, (⟨#[69, 66, 65, 68, 70]⟩ : ByteArray)⟩ : S70), (⟨13, (⟨#[69, 65, 67, 67, 69, 83]⟩ : ByteArray)⟩ : S70), (⟨14, (⟨#[69, 70, 65, 85, 76, 84]⟩ : ByteArray)⟩ : S70), (⟨16, (⟨#[69, 66, 85, 83, 89]⟩ : ByteArray)⟩ : S70), (⟨17, (⟨#[69, 69, 88, 73, 83, 84]⟩ : ByteArray)⟩ : S70), (⟨19, (⟨#[69, 78, 79, 68, 69, 86]⟩ : ByteArray)⟩ : S70), (⟨20, (⟨#[69, 78, 79, 84, 68, 73, 82]⟩ : ByteArray)⟩ : S70), (⟨21, (⟨#[69, 73, 83, 68, 73, 82]⟩ : ByteArray)⟩ : S70), (⟨22, (⟨#[69, 73, 78, 86, 65, 76]⟩ : ByteArray)⟩ : S70), (⟨24, (⟨#[69, 77, 70, 73, 76, 69]⟩ : ByteArray)⟩ : S70), (⟨27, (⟨#[69, 70, 66, 73, 71]⟩ : ByteArray)⟩ : S70), (⟨28, (⟨#[69, 78, 79, 83, 80, 67]⟩ : ByteArray)⟩ : S70), (⟨30, (⟨#[69, 82, 79, 70, 83]⟩ : ByteArray)⟩ : S70), (⟨31, (⟨#[69, 77, 76, 73, 78, 75]⟩ : ByteArray)⟩ : S70), (⟨36, (⟨#[69, 78, 65, 77, 69, 84, 79, 79, 76, 79, 78, 71]⟩ : ByteArray)⟩ : S70), (⟨39, (⟨#[69, 78, 79, 84, 69, 77, 80, 84, 89]⟩ : ByteArray)⟩ : S70), (⟨40, (⟨#[69, 76, 79, 79, 80]⟩ : ByteArray)⟩ : S70), (⟨117, (⟨#[69, 85, 67, 76, 69, 65, 78]⟩ : ByteArray)⟩ : S70)] : List (S70)))
set_option maxHeartbeats 8000000 in
set_option maxRecDepth 100000 in
theorem pumiceref04_Rows.calls  (r : List (S70)) (w : World) (h : pumiceref04_Rows.f  = some r) :
    Calls Tryd.prog 33 #[] w fun e w' => ∃ v0_ : Value, e = .returned (v0_) ∧ Kd.R k70 70 w' w.heap.size (fun _ => True) v0_ r ∧ Below w.heap.size w w' := by
  have hu70 := Tryd.underlying70
  have HB := Aside0.mk (Below.refl w.heap.size w)
  have H : (some (([(⟨0, (⟨#[79, 75]⟩ : ByteArray)⟩ : S70), (⟨1, (⟨#[69, 80, 69, 82, 77]⟩ : ByteArray)⟩ : S70), (⟨2, (⟨#[69, 78, 79, 69, 78, 84]⟩ : ByteArray)⟩ : S70), (⟨5, (⟨#[69, 73, 79]⟩ : ByteArray)⟩ : S70), (⟨6, (⟨#[69, 78, 88, 73, 79]⟩ : ByteArray)⟩ : S70), (⟨9, (⟨#[69, 66, 65, 68, 70]⟩ : ByteArray)⟩ : S70), (⟨13, (⟨#[69, 65, 67, 67, 69, 83]⟩ : ByteArray)⟩ : S70), (⟨14, (⟨#[69, 70, 65, 85, 76, 84]⟩ : ByteArray)⟩ : S70), (⟨16, (⟨#[69, 66, 85, 83, 89]⟩ : ByteArray)⟩ : S70), (⟨17, (⟨#[69, 69, 88, 73, 83, 84]⟩ : ByteArray)⟩ : S70), (⟨19, (⟨#[69, 78, 79, 68, 69, 86]⟩ : ByteArray)⟩ : S70), (⟨20, (⟨#[69, 78, 79, 84, 68, 73, 82]⟩ : ByteArray)⟩ : S70), (⟨21, (⟨#[69, 73, 83, 68, 73, 82]⟩ : ByteArray)⟩ : S70), (⟨22, (⟨#[69, 73, 78, 86, 65, 76]⟩ : ByteArray)⟩ : S70), (⟨24, (⟨#[69, 77, 70, 73, 76, 69]⟩ : ByteArray)⟩ : S70), (⟨27, (⟨#[69, 70, 66, 73, 71]⟩ : ByteArray)⟩ : S70), (⟨28, (⟨#[69, 78, 79, 83, 80, 67]⟩ : ByteArray)⟩ : S70), (⟨30, (⟨#[69, 82, 79, 70, 83]⟩ : ByteArray)⟩ : S70), (⟨31, (⟨#[69, 77, 76, 73, 78, 75]⟩ : ByteArray)⟩ : S70), (⟨36, (⟨#[69, 78, 65, 77, 69, 84, 79, 79, 76, 79, 78, 71]⟩ : ByteArray)⟩ : S70), (⟨39, (⟨#[69, 78, 79, 84, 69, 77, 80, 84, 89]⟩ : ByteArray)⟩ : S70), (⟨40, (⟨#[69, 76, 79, 79, 80]⟩ : ByteArray)⟩ : S70), (⟨117, (⟨#[69, 85, 67, 76, 69, 65, 78]⟩ : ByteArray)⟩ : S70)] : List (S70)))) = some r := h
  clear h
  obtain ⟨y120, hy120⟩ : ∃ y_ : List (S70), y_ = (([(⟨0, (⟨#[79, 75]⟩ : ByteArray)⟩ : S70), (⟨1, (⟨#[69, 80, 69, 82, 77]⟩ : ByteArray)⟩ : S70), (⟨2, (⟨#[69, 78, 79, 69, 78, 84]⟩ : ByteArray)⟩ : S70), (⟨5, (⟨#[69, 73, 79]⟩ : ByteArray)⟩ : S70), (⟨6, (⟨#[69, 78, 88, 73, 79]⟩ : ByteArray)⟩ : S70), (⟨9, (⟨#[69, 66, 65, 68, 70]⟩ : ByteArray)⟩ : S70), (⟨13, (⟨#[69, 65, 67, 67, 69, 83]⟩ : ByteArray)⟩ : S70), (⟨14, (⟨#[69, 70, 65, 85, 76, 84]⟩ : ByteArray)⟩ : S70), (⟨16, (⟨#[69, 66, 85, 83, 89]⟩ : ByteArray)⟩ : S70), (⟨17, (⟨#[69, 69, 88, 73, 83, 84]⟩ : ByteArray)⟩ : S70), (⟨19, (⟨#[69, 78, 79, 68, 69, 86]⟩ : ByteArray)⟩ : S70), (⟨20, (⟨#[69, 78, 79, 84, 68, 73, 82]⟩ : ByteArray)⟩ : S70), (⟨21, (⟨#[69, 73, 83, 68, 73, 82]⟩ : ByteArray)⟩ : S70), (⟨22, (⟨#[69, 73, 78, 86, 65, 76]⟩ : ByteArray)⟩ : S70), (⟨24, (⟨#[69, 77, 70, 73, 76, 69]⟩ : ByteArray)⟩ : S70), (⟨27, (⟨#[69, 70, 66, 73, 71]⟩ : ByteArray)⟩ : S70), (⟨28, (⟨#[69, 78, 79, 83, 80, 67]⟩ : ByteArray)⟩ : S70), (⟨30, (⟨#[69, 82, 79, 70, 83]⟩ : ByteArray)⟩ : S70), (⟨31, (⟨#[69, 77, 76, 73, 78, 75]⟩ : ByteArray)⟩ : S70), (⟨36, (⟨#[69, 78, 65, 77, 69, 84, 79, 79, 76, 79, 78, 71]⟩ : ByteArray)⟩ : S70), (⟨39, (⟨#[69, 78, 79, 84, 69, 77, 80, 84, 89]⟩ : ByteArray)⟩ : S70), (⟨40, (⟨#[69, 76, 79, 79, 80]⟩ : ByteArray)⟩ : S70), (⟨117, (⟨#[69, 85, 67, 76, 69, 65, 78]⟩ : ByteArray)⟩ : S70)] : List (S70))) := ⟨_, rfl⟩
  replace H : (some y120) = some r := by first | (rw [hy120]; with_reducible exact H) | (have H2_ := (Option.bind_some _ _).symm.trans H; rw [hy120]; with_reducible exact H2_) | (have H2_ := (Option.bind_some _ _).symm.trans H; with_reducible exact H2_) | with_reducible exact H | (rw [hy120]; exact H) | exact H
  have Ny120 := Aside0.mk hy120
  clear hy120
  obtain rfl := Option.some.inj H
  go_enter Tryd.func33, Tryd.ntmps33
  go_wp2_with (first | ((with_reducible refine gate_dst (N := 24) rfl ?_); refine Kd.R_lit k70 _ 70 ?hg (N := 24) ?hd (xs := ([(⟨0, (⟨#[79, 75]⟩ : ByteArray)⟩ : S70), (⟨1, (⟨#[69, 80, 69, 82, 77]⟩ : ByteArray)⟩ : S70), (⟨2, (⟨#[69, 78, 79, 69, 78, 84]⟩ : ByteArray)⟩ : S70), (⟨5, (⟨#[69, 73, 79]⟩ : ByteArray)⟩ : S70), (⟨6, (⟨#[69, 78, 88, 73, 79]⟩ : ByteArray)⟩ : S70), (⟨9, (⟨#[69, 66, 65, 68, 70]⟩ : ByteArray)⟩ : S70), (⟨13, (⟨#[69, 65, 67, 67, 69, 83]⟩ : ByteArray)⟩ : S70), (⟨14, (⟨#[69, 70, 65, 85, 76, 84]⟩ : ByteArray)⟩ : S70), (⟨16, (⟨#[69, 66, 85, 83, 89]⟩ : ByteArray)⟩ : S70), (⟨17, (⟨#[69, 69, 88, 73, 83, 84]⟩ : ByteArray)⟩ : S70), (⟨19, (⟨#[69, 78, 79, 68, 69, 86]⟩ : ByteArray)⟩ : S70), (⟨20, (⟨#[69, 78, 79, 84, 68, 73, 82]⟩ : ByteArray)⟩ : S70), (⟨21, (⟨#[69, 73, 83, 68, 73, 82]⟩ : ByteArray)⟩ : S70), (⟨22, (⟨#[69, 73, 78, 86, 65, 76]⟩ : ByteArray)⟩ : S70), (⟨24, (⟨#[69, 77, 70, 73, 76, 69]⟩ : ByteArray)⟩ : S70), (⟨27, (⟨#[69, 70, 66, 73, 71]⟩ : ByteArray)⟩ : S70), (⟨28, (⟨#[69, 78, 79, 83, 80, 67]⟩ : ByteArray)⟩ : S70), (⟨30, (⟨#[69, 82, 79, 70, 83]⟩ : ByteArray)⟩ : S70), (⟨31, (⟨#[69, 77, 76, 73, 78, 75]⟩ : ByteArray)⟩ : S70), (⟨36, (⟨#[69, 78, 65, 77, 69, 84, 79, 79, 76, 79, 78, 71]⟩ : ByteArray)⟩ : S70), (⟨39, (⟨#[69, 78, 79, 84, 69, 77, 80, 84, 89]⟩ : ByteArray)⟩ : S70), (⟨40, (⟨#[69, 76, 79, 79, 80]⟩ : ByteArray)⟩ : S70), (⟨117, (⟨#[69, 85, 67, 76, 69, 65, 78]⟩ : ByteArray)⟩ : S70)] : List (S70))) (inner := [.int .i64 0, .string (⟨#[79, 75]⟩ : ByteArray), .int .i64 1, .string (⟨#[69, 80, 69, 82, 77]⟩ : ByteArray), .int .i64 2, .string (⟨#[69, 78, 79, 69, 78, 84]⟩ : ByteArray), .int .i64 5, .string (⟨#[69, 73, 79]⟩ : ByteArray), .int .i64 6, .string (⟨#[69, 78, 88, 73, 79]⟩ : ByteArray), .int .i64 9, .string (⟨#[69, 66, 65, 68, 70]⟩ : ByteArray), .int .i64 13, .string (⟨#[69, 65, 67, 67, 69, 83]⟩ : ByteArray), .int .i64 14, .string (⟨#[69, 70, 65, 85, 76, 84]⟩ : ByteArray), .int .i64 16, .string (⟨#[69, 66, 85, 83, 89]⟩ : ByteArray), .int .i64 17, .string (⟨#[69, 69, 88, 73, 83, 84]⟩ : ByteArray), .int .i64 19, .string (⟨#[69, 78, 79, 68, 69, 86]⟩ : ByteArray), .int .i64 20, .string (⟨#[69, 78, 79, 84, 68, 73, 82]⟩ : ByteArray), .int .i64 21, .string (⟨#[69, 73, 83, 68, 73, 82]⟩ : ByteArray), .int .i64 22, .string (⟨#[69, 73, 78, 86, 65, 76]⟩ : ByteArray), .int .i64 24, .string (⟨#[69, 77, 70, 73, 76, 69]⟩ : ByteArray), .int .i64 27, .string (⟨#[69, 70, 66, 73, 71]⟩ : ByteArray), .int .i64 28, .string (⟨#[69, 78, 79, 83, 80, 67]⟩ : ByteArray), .int .i64 30, .string (⟨#[69, 82, 79, 70, 83]⟩ : ByteArray), .int .i64 31, .string (⟨#[69, 77, 76, 73, 78, 75]⟩ : ByteArray), .int .i64 36, .string (⟨#[69, 78, 65, 77, 69, 84, 79, 79, 76, 79, 78, 71]⟩ : ByteArray), .int .i64 39, .string (⟨#[69, 78, 79, 84, 69, 77, 80, 84, 89]⟩ : ByteArray), .int .i64 40, .string (⟨#[69, 76, 79, 79, 80]⟩ : ByteArray), .int .i64 117, .string (⟨#[69, 85, 67, 76, 69, 65, 78]⟩ : ByteArray)]) (ok := fun _ => True) (okp := fun _ => True) ?hr ?hp (fun _ hk => hk) trivial (Below.refl _ _) (Nat.le_refl _) (by simp) ?_; (case hd => rfl); (case hg => rfl); (case hr => first | (go_simp; done) | (go_simp; rfl)); (case hp => exact (Reps.c2 (show Kd.M k70 _ _ _ (⟨0, (⟨#[79, 75]⟩ : ByteArray)⟩ : S70) [.int .i64 0, .string (⟨#[79, 75]⟩ : ByteArray)] from (k70_mkM _ _ _ (⟨0, (⟨#[79, 75]⟩ : ByteArray)⟩ : S70) )) (Reps.c2 (show Kd.M k70 _ _ _ (⟨1, (⟨#[69, 80, 69, 82, 77]⟩ : ByteArray)⟩ : S70) [.int .i64 1, .string (⟨#[69, 80, 69, 82, 77]⟩ : ByteArray)] from (k70_mkM _ _ _ (⟨1, (⟨#[69, 80, 69, 82, 77]⟩ : ByteArray)⟩ : S70) )) (Reps.c2 (show Kd.M k70 _ _ _ (⟨2, (⟨#[69, 78, 79, 69, 78, 84]⟩ : ByteArray)⟩ : S70) [.int .i64 2, .string (⟨#[69, 78, 79, 69, 78, 84]⟩ : ByteArray)] from (k70_mkM _ _ _ (⟨2, (⟨#[69, 78, 79, 69, 78, 84]⟩ : ByteArray)⟩ : S70) )) (Reps.c2 (show Kd.M k70 _ _ _ (⟨5, (⟨#[69, 73, 79]⟩ : ByteArray)⟩ : S70) [.int .i64 5, .string (⟨#[69, 73, 79]⟩ : ByteArray)] from (k70_mkM _ _ _ (⟨5, (⟨#[69, 73, 79]⟩ : ByteArray)⟩ : S70) )) (Reps.c2 (show Kd.M k70 _ _ _ (⟨6, (⟨#[69, 78, 88, 73, 79]⟩ : ByteArray)⟩ : S70) [.int .i64 6, .string (⟨#[69, 78, 88, 73, 79]⟩ : ByteArray)] from (k70_mkM _ _ _ (⟨6, (⟨#[69, 78, 88, 73, 79]⟩ : ByteArray)⟩ : S70) )) (Reps.c2 (show Kd.M k70 _ _ _ (⟨9, (⟨#[69, 66, 65, 68, 70]⟩ : ByteArray)⟩ : S70) [.int .i64 9, .string (⟨#[69, 66, 65, 68, 70]⟩ : ByteArray)] from (k70_mkM _ _ _ (⟨9, (⟨#[69, 66, 65, 68, 70]⟩ : ByteArray)⟩ : S70) )) (Reps.c2 (show Kd.M k70 _ _ _ (⟨13, (⟨#[69, 65, 67, 67, 69, 83]⟩ : ByteArray)⟩ : S70) [.int .i64 13, .string (⟨#[69, 65, 67, 67, 69, 83]⟩ : ByteArray)] from (k70_mkM _ _ _ (⟨13, (⟨#[69, 65, 67, 67, 69, 83]⟩ : ByteArray)⟩ : S70) )) (Reps.c2 (show Kd.M k70 _ _ _ (⟨14, (⟨#[69, 70, 65, 85, 76, 84]⟩ : ByteArray)⟩ : S70) [.int .i64 14, .string (⟨#[69, 70, 65, 85, 76, 84]⟩ : ByteArray)] from (k70_mkM _ _ _ (⟨14, (⟨#[69, 70, 65, 85, 76, 84]⟩ : ByteArray)⟩ : S70) )) (Reps.c2 (show Kd.M k70 _ _ _ (⟨16, (⟨#[69, 66, 85, 83, 89]⟩ : ByteArray)⟩ : S70) [.int .i64 16, .string (⟨#[69, 66, 85, 83, 89]⟩ : ByteArray)] from (k70_mkM _ _ _ (⟨16, (⟨#[69, 66, 85, 83, 89]⟩ : ByteArray)⟩ : S70) )) (Reps.c2 (show Kd.M k70 _ _ _ (⟨17, (⟨#[69, 69, 88, 73, 83, 84]⟩ : ByteArray)⟩ : S70) [.int .i64 17, .string (⟨#[69, 69, 88, 73, 83, 84]⟩ : ByteArray)] from (k70_mkM _ _ _ (⟨17, (⟨#[69, 69, 88, 73, 83, 84]⟩ : ByteArray)⟩ : S70) )) (Reps.c2 (show Kd.M k70 _ _ _ (⟨19, (⟨#[69, 78, 79, 68, 69, 86]⟩ : ByteArray)⟩ : S70) [.int .i64 19, .string (⟨#[69, 78, 79, 68, 69, 86]⟩ : ByteArray)] from (k70_mkM _ _ _ (⟨19, (⟨#[69, 78, 79, 68, 69, 86]⟩ : ByteArray)⟩ : S70) )) (Reps.c2 (show Kd.M k70 _ _ _ (⟨20, (⟨#[69, 78, 79, 84, 68, 73, 82]⟩ : ByteArray)⟩ : S70) [.int .i64 20, .string (⟨#[69, 78, 79, 84, 68, 73, 82]⟩ : ByteArray)] from (k70_mkM _ _ _ (⟨20, (⟨#[69, 78, 79, 84, 68, 73, 82]⟩ : ByteArray)⟩ : S70) )) (Reps.c2 (show Kd.M k70 _ _ _ (⟨21, (⟨#[69, 73, 83, 68, 73, 82]⟩ : ByteArray)⟩ : S70) [.int .i64 21, .string (⟨#[69, 73, 83, 68, 73, 82]⟩ : ByteArray)] from (k70_mkM _ _ _ (⟨21, (⟨#[69, 73, 83, 68, 73, 82]⟩ : ByteArray)⟩ : S70) )) (Reps.c2 (show Kd.M k70 _ _ _ (⟨22, (⟨#[69, 73, 78, 86, 65, 76]⟩ : ByteArray)⟩ : S70) [.int .i64 22, .string (⟨#[69, 73, 78, 86, 65, 76]⟩ : ByteArray)] from (k70_mkM _ _ _ (⟨22, (⟨#[69, 73, 78, 86, 65, 76]⟩ : ByteArray)⟩ : S70) )) (Reps.c2 (show Kd.M k70 _ _ _ (⟨24, (⟨#[69, 77, 70, 73, 76, 69]⟩ : ByteArray)⟩ : S70) [.int .i64 24, .string (⟨#[69, 77, 70, 73, 76, 69]⟩ : ByteArray)] from (k70_mkM _ _ _ (⟨24, (⟨#[69, 77, 70, 73, 76, 69]⟩ : ByteArray)⟩ : S70) )) (Reps.c2 (show Kd.M k70 _ _ _ (⟨27, (⟨#[69, 70, 66, 73, 71]⟩ : ByteArray)⟩ : S70) [.int .i64 27, .string (⟨#[69, 70, 66, 73, 71]⟩ : ByteArray)] from (k70_mkM _ _ _ (⟨27, (⟨#[69, 70, 66, 73, 71]⟩ : ByteArray)⟩ : S70) )) (Reps.c2 (show Kd.M k70 _ _ _ (⟨28, (⟨#[69, 78, 79, 83, 80, 67]⟩ : ByteArray)⟩ : S70) [.int .i64 28, .string (⟨#[69, 78, 79, 83, 80, 67]⟩ : ByteArray)] from (k70_mkM _ _ _ (⟨28, (⟨#[69, 78, 79, 83, 80, 67]⟩ : ByteArray)⟩ : S70) )) (Reps.c2 (show Kd.M k70 _ _ _ (⟨30, (⟨#[69, 82, 79, 70, 83]⟩ : ByteArray)⟩ : S70) [.int .i64 30, .string (⟨#[69, 82, 79, 70, 83]⟩ : ByteArray)] from (k70_mkM _ _ _ (⟨30, (⟨#[69, 82, 79, 70, 83]⟩ : ByteArray)⟩ : S70) )) (Reps.c2 (show Kd.M k70 _ _ _ (⟨31, (⟨#[69, 77, 76, 73, 78, 75]⟩ : ByteArray)⟩ : S70) [.int .i64 31, .string (⟨#[69, 77, 76, 73, 78, 75]⟩ : ByteArray)] from (k70_mkM _ _ _ (⟨31, (⟨#[69, 77, 76, 73, 78, 75]⟩ : ByteArray)⟩ : S70) )) (Reps.c2 (show Kd.M k70 _ _ _ (⟨36, (⟨#[69, 78, 65, 77, 69, 84, 79, 79, 76, 79, 78, 71]⟩ : ByteArray)⟩ : S70) [.int .i64 36, .string (⟨#[69, 78, 65, 77, 69, 84, 79, 79, 76, 79, 78, 71]⟩ : ByteArray)] from (k70_mkM _ _ _ (⟨36, (⟨#[69, 78, 65, 77, 69, 84, 79, 79, 76, 79, 78, 71]⟩ : ByteArray)⟩ : S70) )) (Reps.c2 (show Kd.M k70 _ _ _ (⟨39, (⟨#[69, 78, 79, 84, 69, 77, 80, 84, 89]⟩ : ByteArray)⟩ : S70) [.int .i64 39, .string (⟨#[69, 78, 79, 84, 69, 77, 80, 84, 89]⟩ : ByteArray)] from (k70_mkM _ _ _ (⟨39, (⟨#[69, 78, 79, 84, 69, 77, 80, 84, 89]⟩ : ByteArray)⟩ : S70) )) (Reps.c2 (show Kd.M k70 _ _ _ (⟨40, (⟨#[69, 76, 79, 79, 80]⟩ : ByteArray)⟩ : S70) [.int .i64 40, .string (⟨#[69, 76, 79, 79, 80]⟩ : ByteArray)] from (k70_mkM _ _ _ (⟨40, (⟨#[69, 76, 79, 79, 80]⟩ : ByteArray)⟩ : S70) )) (Reps.c2 (show Kd.M k70 _ _ _ (⟨117, (⟨#[69, 85, 67, 76, 69, 65, 78]⟩ : ByteArray)⟩ : S70) [.int .i64 117, .string (⟨#[69, 85, 67, 76, 69, 65, 78]⟩ : ByteArray)] from (k70_mkM _ _ _ (⟨117, (⟨#[69, 85, 67, 76, 69, 65, 78]⟩ : ByteArray)⟩ : S70) )) (Reps.none _ _))))))))))))))))))))))))); intro v121 w1 ho2 hb hg_ hnew_; clear hg_ hnew_; (first | rw [← Ny120.out] at ho2 | (simp only [Int.reduceToNat] at ho2; rw [← Ny120.out] at ho2)); have n0_ := Aside0.mk (Kd.R_lower ho2 (below_size (by repeat (first | (with_reducible first | exact HB.out | apply below_alloc | apply pw_below_drewN | apply below_drew1) | exact HB.out)))); have n1_ := Aside0.mk (below_step (by repeat (first | (with_reducible first | exact HB.out | apply below_alloc | apply pw_below_drewN | apply below_drew1) | exact HB.out)) hb); clear HB; have HO122 := n0_; have HB := n1_; clear n0_ n1_; clear hb ho2))
  go_ret
  exact ⟨_, by first | rfl | (simp [errW_none, errW_some] <;> rfl) | (simp [*, errW_none, errW_some] <;> rfl), by (with_reducible repeat (first | apply Kd.R_alloc | apply Kd.R_drewN | apply Kd.R_drew)); exact HO122.out, by repeat (first | (with_reducible first | exact HB.out | apply below_alloc | apply pw_below_drewN | apply below_drew1) | exact HB.out)⟩

/-! ### pumiceref04_Find: function 11 -/
def pumiceref04_Find.l0 : Nat → ByteArray → List (S70) → Int → Option (Int × Bool)
  | 0, _, _, _ => none
  | k + 1, x0, x4, x5 => if x5 < (x4.length : Int) then (if 0 ≤ x5 then (if ((rd_T70 x4 x5).f1).toList = x0.toList then (some ((rd_T70 x4 x5).f0, true)) else (pumiceref04_Find.l0 k x0 x4 (wrap64 (x5 + 1)))) else (none)) else (some (0, false))
def pumiceref04_Find.f (k : Nat) (a0 : ByteArray) : Option (Int × Bool) := (pumiceref04_Rows.f).bind fun t123 => (pumiceref04_Find.l0 k a0 t123 0)
theorem pumiceref04_Find.mono_l : ∀ k, (∀ y0 y1 y2, LeO (pumiceref04_Find.l0 k y0 y1 y2) (pumiceref04_Find.l0 (k + 1) y0 y1 y2))
  | 0 => fun _ _ _ r h => by simp [pumiceref04_Find.l0] at h
  | k + 1 => by
    have ih0 := pumiceref04_Find.mono_l k
    · intro y0 y1 y2
      unfold pumiceref04_Find.l0
      repeat' first
      | (with_reducible exact ih0 _ _ _)
      | (with_reducible exact LeO.refl _)
      | (with_reducible exact LeO.none _)
      | (with_reducible refine LeO.ite ?_ ?_)
      | (with_reducible refine LeO.bind ?_ (fun _ => ?_))
      | exact ih0 _ _ _
      | exact LeO.none _
      | refine LeO.ite ?_ ?_
      | refine LeO.bind ?_ (fun _ => ?_)
theorem pumiceref04_Find.mono : ∀ a0 k, LeO (pumiceref04_Find.f k a0) (pumiceref04_Find.f (k + 1) a0) := by
  intro a0 k
  have ih0 := pumiceref04_Find.mono_l k
  unfold pumiceref04_Find.f
  repeat' first
      | (with_reducible exact ih0 _ _ _)
      | (with_reducible exact LeO.refl _)
      | (with_reducible exact LeO.none _)
      | (with_reducible refine LeO.ite ?_ ?_)
      | (with_reducible refine LeO.bind ?_ (fun _ => ?_))
      | exact ih0 _ _ _
      | exact LeO.none _
      | refine LeO.ite ?_ ?_
      | refine LeO.bind ?_ (fun _ => ?_)
set_option maxHeartbeats 8000000 in
set_option maxRecDepth 100000 in
theorem pumiceref04_Find.calls (k : Nat) (a0 : ByteArray) (r1 : Int) (r2 : Bool) (w : World) (h : pumiceref04_Find.f k a0 = some (r1, r2)) :
    Calls Tryd.prog 11 #[.string a0] w fun e w' => e = .returned (.tuple #[.int .i64 r1, .bool r2]) ∧ Below w.heap.size w w' := by
  have HB := Aside0.mk (Below.refl w.heap.size w)
  have H : ((pumiceref04_Rows.f).bind fun t123 => (pumiceref04_Find.l0 k a0 t123 0)) = some (r1, r2) := h
  clear h
  replace H := Option.bind_eq_some_iff.mp H
  obtain ⟨t123, A20, H⟩ := H
  replace H : (pumiceref04_Find.l0 k a0 t123 0) = some (r1, r2) := H
  have A2 := Aside0.mk A20
  clear A20
  have H' := Aside0.mk H
  clear H
  go_enter Tryd.func11, Tryd.ntmps11
  go_wp2_with (first | ((with_reducible refine gate_callee (f := 33) rfl ?_); refine goesL_ (some 6) rfl rfl Tryd.func33 (by kernel_rfl) rfl #[] rfl (by (try simp only [List.map_toArray, List.map_cons, List.map_nil]); first | done | rfl | (simp only [List.length_drop, List.length_take]; rfl)) ?_; (with_reducible refine (pumiceref04_Rows.calls  t123 _ A2.out).mono ?_); rintro e w3 ⟨v124, rfl, ho0, hb⟩; refine ⟨_, rfl, ?_⟩; have n0_ := Aside0.mk (Kd.R_lower ho0 (below_size (by repeat (first | (with_reducible first | exact HB.out | apply below_alloc | apply pw_below_drewN | apply below_drew1) | exact HB.out)))); have n1_ := Aside0.mk (below_step (by repeat (first | (with_reducible first | exact HB.out | apply below_alloc | apply pw_below_drewN | apply below_drew1) | exact HB.out)) hb); clear HB; have HO125 := n0_; have HB := n1_; clear n0_ n1_; (try clear hb); (try clear hb2); (try clear hk); (try clear hi); (try clear ho0)))
  go_loopg [5] k (fun kq v5 w' => ∃ (x5_1 : Int), v5 = .int .i64 x5_1 ∧ Aside0 (pumiceref04_Find.l0 kq a0 t123 x5_1 = some (r1, r2)) ∧ Aside0 (kq ≤ k) ∧ Aside0 (Kd.R k70 70 w' w.heap.size (fun _ => True) v124 t123) ∧ Aside0 (Below w.heap.size w w'))
  case atStart => exact ⟨(0), (by first | rfl | (simp; done) | (simp [*]; done) | (simp [wrap64]; done)), H', ⟨Nat.le_refl _⟩, ⟨by (with_reducible repeat (first | apply Kd.R_alloc | apply Kd.R_drewN | apply Kd.R_drew)); exact HO125.out⟩, ⟨by repeat (first | (with_reducible first | exact HB.out | apply below_alloc | apply pw_below_drewN | apply below_drew1) | exact HB.out)⟩⟩
  case round =>
    clear H'
    try clear c1
    try clear p2
    try clear c3
    obtain ⟨x5_1, rfl, HA, HK1, HO_4, HB⟩ := hrel
    cases gk with
    | zero => exact absurd HA.out (by simp [pumiceref04_Find.l0])
    | succ k1 =>
      have H := HA.out
      clear HA
      simp only [pumiceref04_Find.l0] at H
      by_cases c4 : x5_1 < (t123.length : Int)
      · rw [if_pos c4] at H
        have c4b0 : decide (x5_1 < (t123.length : Int)) = true := decide_eq_true c4
        clear c4
        by_cases c5 : 0 ≤ x5_1
        · rw [if_pos c5] at H
          have c5b0 : decide (0 ≤ x5_1) = true := decide_eq_true c5
          clear c5
          by_cases c6 : ((rd_T70 t123 x5_1).f1).toList = a0.toList
          · rw [if_pos c6] at H
            have c6b0 : (((rd_T70 t123 x5_1).f1).toList == a0.toList) = true := beq_iff_eq.mpr c6
            have c6b1 : (((rd_T70 t123 x5_1).f1).toList != a0.toList) = false := bne_eq_false_iff_eq.mpr c6
            clear c6
            simp only [Option.some.injEq, Prod.mk.injEq] at H
            obtain ⟨rfl, rfl⟩ := H
            obtain ⟨Ao7, co7, eo7⟩ := Kd.R_slice HO_4.out
            subst eo7
            have p126 : 0 ≤ (x5_1 : Int) := of_decide_eq_true (by first | (with_reducible assumption) | assumption)
            have q126 : x5_1 < (t123.length : Int) := of_decide_eq_true (by first | (with_reducible assumption) | assumption)
            obtain ⟨ad126, e126, hx126_0, hx126_1⟩ := at_T70 (Kd.R_reads' HO_4.out).2.2 x5_1 p126 q126
            cases e126
            replace p126 := eq_true p126
            replace q126 := eq_true q126
            have p127 : 0 ≤ (x5_1 : Int) := of_decide_eq_true (by first | (with_reducible assumption) | assumption)
            have q127 : x5_1 < (t123.length : Int) := of_decide_eq_true (by first | (with_reducible assumption) | assumption)
            obtain ⟨ad127, e127, hx127_0, hx127_1⟩ := at_T70 (Kd.R_reads' HO_4.out).2.2 x5_1 p127 q127
            obtain rfl : ad126 = ad127 := (by injection e127)
            replace p127 := eq_true p127
            replace q127 := eq_true q127
            go_wp2
            go_ret2
            exact ⟨by first | rfl | exact isEmpty_bne_ _ | (simp [errW_none, errW_some] <;> rfl) | (simp [*, errW_none, errW_some] <;> rfl), by repeat (first | (with_reducible first | exact HB.out | apply below_alloc | apply pw_below_drewN | apply below_drew1) | exact HB.out)⟩
          · rw [if_neg c6] at H
            have c6b0 : (((rd_T70 t123 x5_1).f1).toList == a0.toList) = false := beq_eq_false_iff_ne.mpr c6
            have c6b1 : (((rd_T70 t123 x5_1).f1).toList != a0.toList) = true := bne_iff_ne.mpr c6
            have H' := Aside0.mk H
            clear H
            obtain ⟨Ao8, co8, eo8⟩ := Kd.R_slice HO_4.out
            subst eo8
            have p126 : 0 ≤ (x5_1 : Int) := of_decide_eq_true (by first | (with_reducible assumption) | assumption)
            have q126 : x5_1 < (t123.length : Int) := of_decide_eq_true (by first | (with_reducible assumption) | assumption)
            obtain ⟨ad126, e126, hx126_0, hx126_1⟩ := at_T70 (Kd.R_reads' HO_4.out).2.2 x5_1 p126 q126
            cases e126
            replace p126 := eq_true p126
            replace q126 := eq_true q126
            go_wp2
            go_roundg k1
            case measure => have := HK1.out; omega
            case rel => exact ⟨(wrap64 (x5_1 + 1)), (by first | rfl | (simp; done) | (simp [*]; done) | (simp [wrap64]; done)), H', ⟨by have := HK1.out; omega⟩, ⟨by (with_reducible repeat (first | apply Kd.R_alloc | apply Kd.R_drewN | apply Kd.R_drew)); exact HO_4.out⟩, ⟨by repeat (first | (with_reducible first | exact HB.out | apply below_alloc | apply pw_below_drewN | apply below_drew1) | exact HB.out)⟩⟩
        · rw [if_neg c5] at H
          exact absurd H (by simp)
      · rw [if_neg c4] at H
        have c4b0 : decide (x5_1 < (t123.length : Int)) = false := decide_eq_false c4
        clear c4
        simp only [Option.some.injEq, Prod.mk.injEq] at H
        obtain ⟨rfl, rfl⟩ := H
        obtain ⟨Ao9, co9, eo9⟩ := Kd.R_slice HO_4.out
        subst eo9
        go_wp2
        go_ret2
        exact ⟨by first | rfl | exact isEmpty_bne_ _ | (simp [errW_none, errW_some] <;> rfl) | (simp [*, errW_none, errW_some] <;> rfl), by repeat (first | (with_reducible first | exact HB.out | apply below_alloc | apply pw_below_drewN | apply below_drew1) | exact HB.out)⟩

end Go.Proofs.YtfmmmojlnfndkaaDoor.Q
