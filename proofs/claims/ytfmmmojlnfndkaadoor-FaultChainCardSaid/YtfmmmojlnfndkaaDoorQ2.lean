/- Functions of this seat as plain Lean functions, each with the contract that the machine keeps. No condition. Laid by wip/qprint.py. -/
import Derived.Test.YtfmmmojlnfndkaaDoorQ0
import Derived.Test.YtfmmmojlnfndkaaDoorQ1
namespace Go.Proofs.YtfmmmojlnfndkaaDoor.Q
open Go.RowKit Go.Proofs.YtfmmmojlnfndkaaDoorW.PrintWords Go.Proofs.YtfmmmojlnfndkaaDoorW.PrintLast Go.Proofs.YtfmmmojlnfndkaaDoorW.PrintMore
attribute [local go_sem] max2_int min2_int max_two min_two max_three min_three max_four min_four   -- for this text's walks alone
set_option linter.unusedVariables false
set_option linter.unusedSimpArgs false

/-! ### fault_Worse: function 27 -/
def fault_Worse.j0 : Nat → Int → Int → Int → Int → Bool → Option (Int)
  | 0, _, _, _, _, _ => none
  | k + 1, x0, x1, x5, x6, x15 => if x15 = true then (some x0) else (if x5 > x6 then (some x1) else (some (mn x0 x1)))
def fault_Worse.f (k : Nat) (a0 : Int) (a1 : Int) : Option (Int) := (fault_Class.f k a0).bind fun t101 => ((fault_Class.f k a1).bind fun t102 => (if a0 = 0 then (some a1) else (if a1 = 0 then (fault_Worse.j0 k a0 a1 t101 t102 true) else (fault_Worse.j0 k a0 a1 t101 t102 (decide (t101 < t102))))))
theorem fault_Worse.mono_l : ∀ k, (∀ y0 y1 y2 y3 y4, LeO (fault_Worse.j0 k y0 y1 y2 y3 y4) (fault_Worse.j0 (k + 1) y0 y1 y2 y3 y4))
  | 0 => fun _ _ _ _ _ r h => by simp [fault_Worse.j0] at h
  | k + 1 => by
    have ih0 := fault_Worse.mono_l k
    · intro y0 y1 y2 y3 y4
      unfold fault_Worse.j0
      repeat' first
      | (with_reducible exact ih0 _ _ _ _ _)
      | (with_reducible exact fault_Class.mono _ _)
      | (with_reducible exact LeO.refl _)
      | (with_reducible exact LeO.none _)
      | (with_reducible refine LeO.ite ?_ ?_)
      | (with_reducible refine LeO.bind ?_ (fun _ => ?_))
      | exact ih0 _ _ _ _ _
      | exact fault_Class.mono _ _
      | exact LeO.none _
      | refine LeO.ite ?_ ?_
      | refine LeO.bind ?_ (fun _ => ?_)
theorem fault_Worse.mono : ∀ a0 a1 k, LeO (fault_Worse.f k a0 a1) (fault_Worse.f (k + 1) a0 a1) := by
  intro a0 a1 k
  have ih0 := fault_Worse.mono_l k
  unfold fault_Worse.f
  repeat' first
      | (with_reducible exact ih0 _ _ _ _ _)
      | (with_reducible exact fault_Class.mono _ _)
      | (with_reducible exact LeO.refl _)
      | (with_reducible exact LeO.none _)
      | (with_reducible refine LeO.ite ?_ ?_)
      | (with_reducible refine LeO.bind ?_ (fun _ => ?_))
      | exact ih0 _ _ _ _ _
      | exact fault_Class.mono _ _
      | exact LeO.none _
      | refine LeO.ite ?_ ?_
      | refine LeO.bind ?_ (fun _ => ?_)
set_option maxHeartbeats 8000000 in
set_option maxRecDepth 100000 in
theorem fault_Worse.calls (k : Nat) (a0 : Int) (a1 : Int) (r : Int) (w : World) (h : fault_Worse.f k a0 a1 = some r) :
    Calls Tryd.prog 27 #[.int .i64 a0, .int .i64 a1] w fun e w' => e = .returned (.int .i64 r) ∧ Below w.heap.size w w' := by
  have HB := Aside0.mk (Below.refl w.heap.size w)
  have H : ((fault_Class.f k a0).bind fun t101 => ((fault_Class.f k a1).bind fun t102 => (if a0 = 0 then (some a1) else (if a1 = 0 then (fault_Worse.j0 k a0 a1 t101 t102 true) else (fault_Worse.j0 k a0 a1 t101 t102 (decide (t101 < t102))))))) = some r := h
  clear h
  replace H := Option.bind_eq_some_iff.mp H
  obtain ⟨t101, A30, H⟩ := H
  replace H : ((fault_Class.f k a1).bind fun t102 => (if a0 = 0 then (some a1) else (if a1 = 0 then (fault_Worse.j0 k a0 a1 t101 t102 true) else (fault_Worse.j0 k a0 a1 t101 t102 (decide (t101 < t102)))))) = some r := H
  have A3 := Aside0.mk A30
  clear A30
  replace H := Option.bind_eq_some_iff.mp H
  obtain ⟨t102, A40, H⟩ := H
  replace H : (if a0 = 0 then (some a1) else (if a1 = 0 then (fault_Worse.j0 k a0 a1 t101 t102 true) else (fault_Worse.j0 k a0 a1 t101 t102 (decide (t101 < t102))))) = some r := H
  have A4 := Aside0.mk A40
  clear A40
  by_cases c5 : a0 = 0
  · rw [if_pos c5] at H
    have c5b0 : (a0 == 0) = true := beq_iff_eq.mpr c5
    have c5b1 : (a0 != 0) = false := bne_eq_false_iff_eq.mpr c5
    clear c5
    obtain rfl := Option.some.inj H
    go_enter Tryd.func27, Tryd.ntmps27
    go_wp2_with (first | ((with_reducible refine gate_callee (f := 12) rfl ?_); refine goesL_ (some 8) rfl rfl Tryd.func12 (by kernel_rfl) rfl #[.int .i64 a0] rfl (by (try simp only [List.map_toArray, List.map_cons, List.map_nil]); first | done | rfl | (simp only [List.length_drop, List.length_take]; rfl)) ?_; (with_reducible refine (fault_Class.calls k a0 t101 _ A3.out).mono ?_); rintro e w' ⟨rfl, ⟨nd, rfl⟩⟩; refine ⟨_, rfl, ?_⟩) | ((with_reducible refine gate_callee (f := 12) rfl ?_); refine goesL_ (some 10) rfl rfl Tryd.func12 (by kernel_rfl) rfl #[.int .i64 a1] rfl (by (try simp only [List.map_toArray, List.map_cons, List.map_nil]); first | done | rfl | (simp only [List.length_drop, List.length_take]; rfl)) ?_; (with_reducible refine (fault_Class.calls k a1 t102 _ A4.out).mono ?_); rintro e w' ⟨rfl, ⟨nd, rfl⟩⟩; refine ⟨_, rfl, ?_⟩))
    go_ret
    exact ⟨by first | rfl | exact isEmpty_bne_ _ | (simp [errW_none, errW_some] <;> rfl) | (simp [*, errW_none, errW_some] <;> rfl), by repeat (first | (with_reducible first | exact HB.out | apply below_alloc | apply pw_below_drewN | apply below_drew1) | exact HB.out)⟩
  · rw [if_neg c5] at H
    have c5b0 : (a0 == 0) = false := beq_eq_false_iff_ne.mpr c5
    have c5b1 : (a0 != 0) = true := bne_iff_ne.mpr c5
    have HC6 := Aside0.mk H
    clear H
    go_enter Tryd.func27, Tryd.ntmps27
    go_upto_region 4 with (first | ((with_reducible refine gate_callee (f := 12) rfl ?_); refine goesL_ (some 8) rfl rfl Tryd.func12 (by kernel_rfl) rfl #[.int .i64 a0] rfl (by (try simp only [List.map_toArray, List.map_cons, List.map_nil]); first | done | rfl | (simp only [List.length_drop, List.length_take]; rfl)) ?_; (with_reducible refine (fault_Class.calls k a0 t101 _ A3.out).mono ?_); rintro e w' ⟨rfl, ⟨nd, rfl⟩⟩; refine ⟨_, rfl, ?_⟩) | ((with_reducible refine gate_callee (f := 12) rfl ?_); refine goesL_ (some 10) rfl rfl Tryd.func12 (by kernel_rfl) rfl #[.int .i64 a1] rfl (by (try simp only [List.map_toArray, List.map_cons, List.map_nil]); first | done | rfl | (simp only [List.length_drop, List.length_take]; rfl)) ?_; (with_reducible refine (fault_Class.calls k a1 t102 _ A4.out).mono ?_); rintro e w' ⟨rfl, ⟨nd, rfl⟩⟩; refine ⟨_, rfl, ?_⟩))
    (try simp only [Act.put, List.setIfInBounds_toArray, List.set_cons_zero, List.set_cons_succ])
    go_cut [15] (fun v15 wc => ∃ (kq : Nat) (x15_5 : Bool), v15 = .bool x15_5 ∧ Aside0 (fault_Worse.j0 kq a0 a1 t101 t102 x15_5 = some r) ∧ Aside0 (kq ≤ k) ∧ Aside0 (Below w.heap.size w wc))
    case first =>
      have H := HC6.out
      clear HC6
      by_cases c7 : a1 = 0
      · rw [if_pos c7] at H
        have c7b0 : (a1 == 0) = true := beq_iff_eq.mpr c7
        have c7b1 : (a1 != 0) = false := bne_eq_false_iff_eq.mpr c7
        clear c7
        (first | rw [c7b0] | (simp only [i64_w, i32_w]; rw [c7b0]) | skip)
        have H' := Aside0.mk H
        clear H
        go_wp2
        go_meet
        case rel => exact ⟨_, (true), (by first | rfl | (simp; done) | (simp [*]; done) | (simp [wrap64]; done)), H', ⟨by first | omega | exact Nat.le_refl _⟩, ⟨by repeat (first | (with_reducible first | exact HB.out | apply below_alloc | apply pw_below_drewN | apply below_drew1) | exact HB.out)⟩⟩
      · rw [if_neg c7] at H
        have c7b0 : (a1 == 0) = false := beq_eq_false_iff_ne.mpr c7
        have c7b1 : (a1 != 0) = true := bne_iff_ne.mpr c7
        (first | rw [c7b0] | (simp only [i64_w, i32_w]; rw [c7b0]) | skip)
        have H' := Aside0.mk H
        clear H
        go_wp2
        go_meet
        case rel => exact ⟨_, (decide (t101 < t102)), (by first | rfl | (simp; done) | (simp [*]; done) | (simp [wrap64]; done)), H', ⟨by first | omega | exact Nat.le_refl _⟩, ⟨by repeat (first | (with_reducible first | exact HB.out | apply below_alloc | apply pw_below_drewN | apply below_drew1) | exact HB.out)⟩⟩
    case rest =>
      clear HC6
      try clear c1
      try clear c2
      try clear p2
      try clear c5
      try clear c5b0
      try clear c5b1
      try clear p6
      try clear c7
      try clear c7b0
      try clear c7b1
      obtain ⟨kq, x15_5, rfl, HA, HJ5, HB⟩ := hcut
      cases kq with
      | zero => exact absurd HA.out (by simp [fault_Worse.j0])
      | succ kj5 =>
        have H := HA.out
        clear HA
        simp only [fault_Worse.j0] at H
        by_cases c8 : x15_5 = true
        · subst c8
          have H1 : (some a0) = some r := by rw [if_pos rfl] at H; exact H
          clear H
          have H := H1
          clear H1
          obtain rfl := Option.some.inj H
          go_wp2
          go_ret
          exact ⟨by first | rfl | exact isEmpty_bne_ _ | (simp [errW_none, errW_some] <;> rfl) | (simp [*, errW_none, errW_some] <;> rfl), by repeat (first | (with_reducible first | exact HB.out | apply below_alloc | apply pw_below_drewN | apply below_drew1) | exact HB.out)⟩
        · replace c8 := Bool.eq_false_iff.mpr c8
          subst c8
          have H1 : (if t101 > t102 then (some a1) else (some (mn a0 a1))) = some r := by rw [if_neg (show ¬ (false = true) by decide)] at H; exact H
          clear H
          have H := H1
          clear H1
          by_cases c9 : t101 > t102
          · rw [if_pos c9] at H
            have c9b0 : decide (t102 < t101) = true := decide_eq_true c9
            clear c9
            obtain rfl := Option.some.inj H
            go_wp2
            go_ret
            exact ⟨by first | rfl | exact isEmpty_bne_ _ | (simp [errW_none, errW_some] <;> rfl) | (simp [*, errW_none, errW_some] <;> rfl), by repeat (first | (with_reducible first | exact HB.out | apply below_alloc | apply pw_below_drewN | apply below_drew1) | exact HB.out)⟩
          · rw [if_neg c9] at H
            have c9b0 : decide (t102 < t101) = false := decide_eq_false c9
            clear c9
            obtain ⟨ji10, hji10⟩ : ∃ j_ : Int, (mn a0 a1) = j_ := ⟨_, rfl⟩
            replace H : (some ji10) = some r := by first | (rw [hji10] at H; exact H) | (simp only [hji10] at H ⊢; exact H)
            have hji10_ : (if a1 < a0 then a1 else a0) = ji10 := hji10
            obtain rfl := Option.some.inj H
            go_wp2
            go_ret
            exact ⟨by first | rfl | exact isEmpty_bne_ _ | (simp [errW_none, errW_some] <;> rfl) | (simp only [← hji10]; first | rfl | (simp [errW_none, errW_some] <;> rfl)) | (simp [*, errW_none, errW_some] <;> rfl), by repeat (first | (with_reducible first | exact HB.out | apply below_alloc | apply pw_below_drewN | apply below_drew1) | exact HB.out)⟩

/-! ### fault_all: function 32 -/
def fault_all.f  : Option ((List (S66))) := some (([(⟨0, (⟨#[79, 75]⟩ : ByteArray)⟩ : S66), (⟨1, (⟨#[69, 80, 69, 82, 77]⟩ : ByteArray)⟩ : S66), (⟨2, (⟨#[69, 78, 79, 69, 78, 84]⟩ : ByteArray)⟩ : S66), (⟨5, (⟨#[69, 73, 79]⟩ : ByteArray)⟩ : S66), (⟨6, (⟨#[69, 78, 88, 73, 79]⟩ : ByteArray)⟩ : S66), (⟨9, (⟨#[69, 66, 65, 68, 70]⟩ : ByteArray)⟩ : S66), (⟨13, (⟨#[69, 65, 67, 67, 69, 83]⟩ : ByteArray)⟩ : S66), (⟨14, (⟨#[69, 70, 65, 85, 76, 84]⟩ : ByteArray)⟩ : S66), (⟨16, (⟨#[69, 66, 85, 83, 89]⟩ : ByteArray)⟩ : S66), (⟨17, (⟨#[69, 69, 88, 73, 83, 84]⟩ : ByteArray)⟩ : S66), (⟨19, (⟨#[69, 78, 79, 68, 69, 86]⟩ : ByteArray)⟩ : S66), (⟨20, (⟨#[69, 78, 79, 84, 68, 73, 82]⟩ : ByteArray)⟩ : S66), (⟨21, (⟨#[69, 73, 83, 68, 73, 82]⟩ : ByteArray)⟩ : S66), (⟨22, (⟨#[69, 73, 78, 86, 65, 76]⟩ : ByteArray)⟩ : S66), (⟨24, (⟨#[69, 77, 70, 73, 76, 69]⟩ : ByteArray)⟩ : S66), (⟨27, (⟨#[69, 70, 66, 73, 71]⟩ : ByteArray)⟩ : S66), (⟨28, (⟨#[69, 78, 79, 83, 80, 67]⟩ : ByteArray)⟩ : S66), (⟨30, (⟨#[69, 82, 79, 70, 83]⟩ : ByteArray)⟩ : S66), (⟨31, (⟨#[69, 77, 76, 73, 78, 75]⟩ : ByteArray)⟩ : S66), (⟨36, (⟨#[69, 78, 65, 77, 69, 84, 79, 79, 76, 79, 78, 71]⟩ : ByteArray)⟩ : S66), (⟨39, (⟨#[69, 78, 79, 84, 69, 77, 80, 84, 89]⟩ : ByteArray)⟩ : S66), (⟨40, (⟨#[69, 76, 79, 79, 80]⟩ : ByteArray)⟩ : S66), (⟨117, (⟨#[69, 85, 67, 76, 69, 65, 78]⟩ : ByteArray)⟩ : S66)] : List (S66)))
set_option maxHeartbeats 8000000 in
set_option maxRecDepth 100000 in
theorem fault_all.calls  (r : List (S66)) (w : World) (h : fault_all.f  = some r) :
    Calls Tryd.prog 32 #[] w fun e w' => ∃ v0_ : Value, e = .returned (v0_) ∧ Kd.R k66 66 w' w.heap.size (fun _ => True) v0_ r ∧ Below w.heap.size w w' := by
  have hu66 := Tryd.underlying66
  have HB := Aside0.mk (Below.refl w.heap.size w)
  have H : (some (([(⟨0, (⟨#[79, 75]⟩ : ByteArray)⟩ : S66), (⟨1, (⟨#[69, 80, 69, 82, 77]⟩ : ByteArray)⟩ : S66), (⟨2, (⟨#[69, 78, 79, 69, 78, 84]⟩ : ByteArray)⟩ : S66), (⟨5, (⟨#[69, 73, 79]⟩ : ByteArray)⟩ : S66), (⟨6, (⟨#[69, 78, 88, 73, 79]⟩ : ByteArray)⟩ : S66), (⟨9, (⟨#[69, 66, 65, 68, 70]⟩ : ByteArray)⟩ : S66), (⟨13, (⟨#[69, 65, 67, 67, 69, 83]⟩ : ByteArray)⟩ : S66), (⟨14, (⟨#[69, 70, 65, 85, 76, 84]⟩ : ByteArray)⟩ : S66), (⟨16, (⟨#[69, 66, 85, 83, 89]⟩ : ByteArray)⟩ : S66), (⟨17, (⟨#[69, 69, 88, 73, 83, 84]⟩ : ByteArray)⟩ : S66), (⟨19, (⟨#[69, 78, 79, 68, 69, 86]⟩ : ByteArray)⟩ : S66), (⟨20, (⟨#[69, 78, 79, 84, 68, 73, 82]⟩ : ByteArray)⟩ : S66), (⟨21, (⟨#[69, 73, 83, 68, 73, 82]⟩ : ByteArray)⟩ : S66), (⟨22, (⟨#[69, 73, 78, 86, 65, 76]⟩ : ByteArray)⟩ : S66), (⟨24, (⟨#[69, 77, 70, 73, 76, 69]⟩ : ByteArray)⟩ : S66), (⟨27, (⟨#[69, 70, 66, 73, 71]⟩ : ByteArray)⟩ : S66), (⟨28, (⟨#[69, 78, 79, 83, 80, 67]⟩ : ByteArray)⟩ : S66), (⟨30, (⟨#[69, 82, 79, 70, 83]⟩ : ByteArray)⟩ : S66), (⟨31, (⟨#[69, 77, 76, 73, 78, 75]⟩ : ByteArray)⟩ : S66), (⟨36, (⟨#[69, 78, 65, 77, 69, 84, 79, 79, 76, 79, 78, 71]⟩ : ByteArray)⟩ : S66), (⟨39, (⟨#[69, 78, 79, 84, 69, 77, 80, 84, 89]⟩ : ByteArray)⟩ : S66), (⟨40, (⟨#[69, 76, 79, 79, 80]⟩ : ByteArray)⟩ : S66), (⟨117, (⟨#[69, 85, 67, 76, 69, 65, 78]⟩ : ByteArray)⟩ : S66)] : List (S66)))) = some r := h
  clear h
  obtain ⟨y103, hy103⟩ : ∃ y_ : List (S66), y_ = (([(⟨0, (⟨#[79, 75]⟩ : ByteArray)⟩ : S66), (⟨1, (⟨#[69, 80, 69, 82, 77]⟩ : ByteArray)⟩ : S66), (⟨2, (⟨#[69, 78, 79, 69, 78, 84]⟩ : ByteArray)⟩ : S66), (⟨5, (⟨#[69, 73, 79]⟩ : ByteArray)⟩ : S66), (⟨6, (⟨#[69, 78, 88, 73, 79]⟩ : ByteArray)⟩ : S66), (⟨9, (⟨#[69, 66, 65, 68, 70]⟩ : ByteArray)⟩ : S66), (⟨13, (⟨#[69, 65, 67, 67, 69, 83]⟩ : ByteArray)⟩ : S66), (⟨14, (⟨#[69, 70, 65, 85, 76, 84]⟩ : ByteArray)⟩ : S66), (⟨16, (⟨#[69, 66, 85, 83, 89]⟩ : ByteArray)⟩ : S66), (⟨17, (⟨#[69, 69, 88, 73, 83, 84]⟩ : ByteArray)⟩ : S66), (⟨19, (⟨#[69, 78, 79, 68, 69, 86]⟩ : ByteArray)⟩ : S66), (⟨20, (⟨#[69, 78, 79, 84, 68, 73, 82]⟩ : ByteArray)⟩ : S66), (⟨21, (⟨#[69, 73, 83, 68, 73, 82]⟩ : ByteArray)⟩ : S66), (⟨22, (⟨#[69, 73, 78, 86, 65, 76]⟩ : ByteArray)⟩ : S66), (⟨24, (⟨#[69, 77, 70, 73, 76, 69]⟩ : ByteArray)⟩ : S66), (⟨27, (⟨#[69, 70, 66, 73, 71]⟩ : ByteArray)⟩ : S66), (⟨28, (⟨#[69, 78, 79, 83, 80, 67]⟩ : ByteArray)⟩ : S66), (⟨30, (⟨#[69, 82, 79, 70, 83]⟩ : ByteArray)⟩ : S66), (⟨31, (⟨#[69, 77, 76, 73, 78, 75]⟩ : ByteArray)⟩ : S66), (⟨36, (⟨#[69, 78, 65, 77, 69, 84, 79, 79, 76, 79, 78, 71]⟩ : ByteArray)⟩ : S66), (⟨39, (⟨#[69, 78, 79, 84, 69, 77, 80, 84, 89]⟩ : ByteArray)⟩ : S66), (⟨40, (⟨#[69, 76, 79, 79, 80]⟩ : ByteArray)⟩ : S66), (⟨117, (⟨#[69, 85, 67, 76, 69, 65, 78]⟩ : ByteArray)⟩ : S66)] : List (S66))) := ⟨_, rfl⟩
  replace H : (some y103) = some r := by first | (rw [hy103]; with_reducible exact H) | (have H2_ := (Option.bind_some _ _).symm.trans H; rw [hy103]; with_reducible exact H2_) | (have H2_ := (Option.bind_some _ _).symm.trans H; with_reducible exact H2_) | with_reducible exact H | (rw [hy103]; exact H) | exact H
  have Ny103 := Aside0.mk hy103
  clear hy103
  obtain rfl := Option.some.inj H
  go_enter Tryd.func32, Tryd.ntmps32
  go_wp2_with (first | ((with_reducible refine gate_dst (N := 24) rfl ?_); refine Kd.R_lit k66 _ 66 ?hg (N := 24) ?hd (xs := ([(⟨0, (⟨#[79, 75]⟩ : ByteArray)⟩ : S66), (⟨1, (⟨#[69, 80, 69, 82, 77]⟩ : ByteArray)⟩ : S66), (⟨2, (⟨#[69, 78, 79, 69, 78, 84]⟩ : ByteArray)⟩ : S66), (⟨5, (⟨#[69, 73, 79]⟩ : ByteArray)⟩ : S66), (⟨6, (⟨#[69, 78, 88, 73, 79]⟩ : ByteArray)⟩ : S66), (⟨9, (⟨#[69, 66, 65, 68, 70]⟩ : ByteArray)⟩ : S66), (⟨13, (⟨#[69, 65, 67, 67, 69, 83]⟩ : ByteArray)⟩ : S66), (⟨14, (⟨#[69, 70, 65, 85, 76, 84]⟩ : ByteArray)⟩ : S66), (⟨16, (⟨#[69, 66, 85, 83, 89]⟩ : ByteArray)⟩ : S66), (⟨17, (⟨#[69, 69, 88, 73, 83, 84]⟩ : ByteArray)⟩ : S66), (⟨19, (⟨#[69, 78, 79, 68, 69, 86]⟩ : ByteArray)⟩ : S66), (⟨20, (⟨#[69, 78, 79, 84, 68, 73, 82]⟩ : ByteArray)⟩ : S66), (⟨21, (⟨#[69, 73, 83, 68, 73, 82]⟩ : ByteArray)⟩ : S66), (⟨22, (⟨#[69, 73, 78, 86, 65, 76]⟩ : ByteArray)⟩ : S66), (⟨24, (⟨#[69, 77, 70, 73, 76, 69]⟩ : ByteArray)⟩ : S66), (⟨27, (⟨#[69, 70, 66, 73, 71]⟩ : ByteArray)⟩ : S66), (⟨28, (⟨#[69, 78, 79, 83, 80, 67]⟩ : ByteArray)⟩ : S66), (⟨30, (⟨#[69, 82, 79, 70, 83]⟩ : ByteArray)⟩ : S66), (⟨31, (⟨#[69, 77, 76, 73, 78, 75]⟩ : ByteArray)⟩ : S66), (⟨36, (⟨#[69, 78, 65, 77, 69, 84, 79, 79, 76, 79, 78, 71]⟩ : ByteArray)⟩ : S66), (⟨39, (⟨#[69, 78, 79, 84, 69, 77, 80, 84, 89]⟩ : ByteArray)⟩ : S66), (⟨40, (⟨#[69, 76, 79, 79, 80]⟩ : ByteArray)⟩ : S66), (⟨117, (⟨#[69, 85, 67, 76, 69, 65, 78]⟩ : ByteArray)⟩ : S66)] : List (S66))) (inner := [.int .i64 0, .string (⟨#[79, 75]⟩ : ByteArray), .int .i64 1, .string (⟨#[69, 80, 69, 82, 77]⟩ : ByteArray), .int .i64 2, .string (⟨#[69, 78, 79, 69, 78, 84]⟩ : ByteArray), .int .i64 5, .string (⟨#[69, 73, 79]⟩ : ByteArray), .int .i64 6, .string (⟨#[69, 78, 88, 73, 79]⟩ : ByteArray), .int .i64 9, .string (⟨#[69, 66, 65, 68, 70]⟩ : ByteArray), .int .i64 13, .string (⟨#[69, 65, 67, 67, 69, 83]⟩ : ByteArray), .int .i64 14, .string (⟨#[69, 70, 65, 85, 76, 84]⟩ : ByteArray), .int .i64 16, .string (⟨#[69, 66, 85, 83, 89]⟩ : ByteArray), .int .i64 17, .string (⟨#[69, 69, 88, 73, 83, 84]⟩ : ByteArray), .int .i64 19, .string (⟨#[69, 78, 79, 68, 69, 86]⟩ : ByteArray), .int .i64 20, .string (⟨#[69, 78, 79, 84, 68, 73, 82]⟩ : ByteArray), .int .i64 21, .string (⟨#[69, 73, 83, 68, 73, 82]⟩ : ByteArray), .int .i64 22, .string (⟨#[69, 73, 78, 86, 65, 76]⟩ : ByteArray), .int .i64 24, .string (⟨#[69, 77, 70, 73, 76, 69]⟩ : ByteArray), .int .i64 27, .string (⟨#[69, 70, 66, 73, 71]⟩ : ByteArray), .int .i64 28, .string (⟨#[69, 78, 79, 83, 80, 67]⟩ : ByteArray), .int .i64 30, .string (⟨#[69, 82, 79, 70, 83]⟩ : ByteArray), .int .i64 31, .string (⟨#[69, 77, 76, 73, 78, 75]⟩ : ByteArray), .int .i64 36, .string (⟨#[69, 78, 65, 77, 69, 84, 79, 79, 76, 79, 78, 71]⟩ : ByteArray), .int .i64 39, .string (⟨#[69, 78, 79, 84, 69, 77, 80, 84, 89]⟩ : ByteArray), .int .i64 40, .string (⟨#[69, 76, 79, 79, 80]⟩ : ByteArray), .int .i64 117, .string (⟨#[69, 85, 67, 76, 69, 65, 78]⟩ : ByteArray)]) (ok := fun _ => True) (okp := fun _ => True) ?hr ?hp (fun _ hk => hk) trivial (Below.refl _ _) (Nat.le_refl _) (by simp) ?_; (case hd => rfl); (case hg => rfl); (case hr => first | (go_simp; done) | (go_simp; rfl)); (case hp => exact (Reps.c2 (show Kd.M k66 _ _ _ (⟨0, (⟨#[79, 75]⟩ : ByteArray)⟩ : S66) [.int .i64 0, .string (⟨#[79, 75]⟩ : ByteArray)] from (k66_mkM _ _ _ (⟨0, (⟨#[79, 75]⟩ : ByteArray)⟩ : S66) )) (Reps.c2 (show Kd.M k66 _ _ _ (⟨1, (⟨#[69, 80, 69, 82, 77]⟩ : ByteArray)⟩ : S66) [.int .i64 1, .string (⟨#[69, 80, 69, 82, 77]⟩ : ByteArray)] from (k66_mkM _ _ _ (⟨1, (⟨#[69, 80, 69, 82, 77]⟩ : ByteArray)⟩ : S66) )) (Reps.c2 (show Kd.M k66 _ _ _ (⟨2, (⟨#[69, 78, 79, 69, 78, 84]⟩ : ByteArray)⟩ : S66) [.int .i64 2, .string (⟨#[69, 78, 79, 69, 78, 84]⟩ : ByteArray)] from (k66_mkM _ _ _ (⟨2, (⟨#[69, 78, 79, 69, 78, 84]⟩ : ByteArray)⟩ : S66) )) (Reps.c2 (show Kd.M k66 _ _ _ (⟨5, (⟨#[69, 73, 79]⟩ : ByteArray)⟩ : S66) [.int .i64 5, .string (⟨#[69, 73, 79]⟩ : ByteArray)] from (k66_mkM _ _ _ (⟨5, (⟨#[69, 73, 79]⟩ : ByteArray)⟩ : S66) )) (Reps.c2 (show Kd.M k66 _ _ _ (⟨6, (⟨#[69, 78, 88, 73, 79]⟩ : ByteArray)⟩ : S66) [.int .i64 6, .string (⟨#[69, 78, 88, 73, 79]⟩ : ByteArray)] from (k66_mkM _ _ _ (⟨6, (⟨#[69, 78, 88, 73, 79]⟩ : ByteArray)⟩ : S66) )) (Reps.c2 (show Kd.M k66 _ _ _ (⟨9, (⟨#[69, 66, 65, 68, 70]⟩ : ByteArray)⟩ : S66) [.int .i64 9, .string (⟨#[69, 66, 65, 68, 70]⟩ : ByteArray)] from (k66_mkM _ _ _ (⟨9, (⟨#[69, 66, 65, 68, 70]⟩ : ByteArray)⟩ : S66) )) (Reps.c2 (show Kd.M k66 _ _ _ (⟨13, (⟨#[69, 65, 67, 67, 69, 83]⟩ : ByteArray)⟩ : S66) [.int .i64 13, .string (⟨#[69, 65, 67, 67, 69, 83]⟩ : ByteArray)] from (k66_mkM _ _ _ (⟨13, (⟨#[69, 65, 67, 67, 69, 83]⟩ : ByteArray)⟩ : S66) )) (Reps.c2 (show Kd.M k66 _ _ _ (⟨14, (⟨#[69, 70, 65, 85, 76, 84]⟩ : ByteArray)⟩ : S66) [.int .i64 14, .string (⟨#[69, 70, 65, 85, 76, 84]⟩ : ByteArray)] from (k66_mkM _ _ _ (⟨14, (⟨#[69, 70, 65, 85, 76, 84]⟩ : ByteArray)⟩ : S66) )) (Reps.c2 (show Kd.M k66 _ _ _ (⟨16, (⟨#[69, 66, 85, 83, 89]⟩ : ByteArray)⟩ : S66) [.int .i64 16, .string (⟨#[69, 66, 85, 83, 89]⟩ : ByteArray)] from (k66_mkM _ _ _ (⟨16, (⟨#[69, 66, 85, 83, 89]⟩ : ByteArray)⟩ : S66) )) (Reps.c2 (show Kd.M k66 _ _ _ (⟨17, (⟨#[69, 69, 88, 73, 83, 84]⟩ : ByteArray)⟩ : S66) [.int .i64 17, .string (⟨#[69, 69, 88, 73, 83, 84]⟩ : ByteArray)] from (k66_mkM _ _ _ (⟨17, (⟨#[69, 69, 88, 73, 83, 84]⟩ : ByteArray)⟩ : S66) )) (Reps.c2 (show Kd.M k66 _ _ _ (⟨19, (⟨#[69, 78, 79, 68, 69, 86]⟩ : ByteArray)⟩ : S66) [.int .i64 19, .string (⟨#[69, 78, 79, 68, 69, 86]⟩ : ByteArray)] from (k66_mkM _ _ _ (⟨19, (⟨#[69, 78, 79, 68, 69, 86]⟩ : ByteArray)⟩ : S66) )) (Reps.c2 (show Kd.M k66 _ _ _ (⟨20, (⟨#[69, 78, 79, 84, 68, 73, 82]⟩ : ByteArray)⟩ : S66) [.int .i64 20, .string (⟨#[69, 78, 79, 84, 68, 73, 82]⟩ : ByteArray)] from (k66_mkM _ _ _ (⟨20, (⟨#[69, 78, 79, 84, 68, 73, 82]⟩ : ByteArray)⟩ : S66) )) (Reps.c2 (show Kd.M k66 _ _ _ (⟨21, (⟨#[69, 73, 83, 68, 73, 82]⟩ : ByteArray)⟩ : S66) [.int .i64 21, .string (⟨#[69, 73, 83, 68, 73, 82]⟩ : ByteArray)] from (k66_mkM _ _ _ (⟨21, (⟨#[69, 73, 83, 68, 73, 82]⟩ : ByteArray)⟩ : S66) )) (Reps.c2 (show Kd.M k66 _ _ _ (⟨22, (⟨#[69, 73, 78, 86, 65, 76]⟩ : ByteArray)⟩ : S66) [.int .i64 22, .string (⟨#[69, 73, 78, 86, 65, 76]⟩ : ByteArray)] from (k66_mkM _ _ _ (⟨22, (⟨#[69, 73, 78, 86, 65, 76]⟩ : ByteArray)⟩ : S66) )) (Reps.c2 (show Kd.M k66 _ _ _ (⟨24, (⟨#[69, 77, 70, 73, 76, 69]⟩ : ByteArray)⟩ : S66) [.int .i64 24, .string (⟨#[69, 77, 70, 73, 76, 69]⟩ : ByteArray)] from (k66_mkM _ _ _ (⟨24, (⟨#[69, 77, 70, 73, 76, 69]⟩ : ByteArray)⟩ : S66) )) (Reps.c2 (show Kd.M k66 _ _ _ (⟨27, (⟨#[69, 70, 66, 73, 71]⟩ : ByteArray)⟩ : S66) [.int .i64 27, .string (⟨#[69, 70, 66, 73, 71]⟩ : ByteArray)] from (k66_mkM _ _ _ (⟨27, (⟨#[69, 70, 66, 73, 71]⟩ : ByteArray)⟩ : S66) )) (Reps.c2 (show Kd.M k66 _ _ _ (⟨28, (⟨#[69, 78, 79, 83, 80, 67]⟩ : ByteArray)⟩ : S66) [.int .i64 28, .string (⟨#[69, 78, 79, 83, 80, 67]⟩ : ByteArray)] from (k66_mkM _ _ _ (⟨28, (⟨#[69, 78, 79, 83, 80, 67]⟩ : ByteArray)⟩ : S66) )) (Reps.c2 (show Kd.M k66 _ _ _ (⟨30, (⟨#[69, 82, 79, 70, 83]⟩ : ByteArray)⟩ : S66) [.int .i64 30, .string (⟨#[69, 82, 79, 70, 83]⟩ : ByteArray)] from (k66_mkM _ _ _ (⟨30, (⟨#[69, 82, 79, 70, 83]⟩ : ByteArray)⟩ : S66) )) (Reps.c2 (show Kd.M k66 _ _ _ (⟨31, (⟨#[69, 77, 76, 73, 78, 75]⟩ : ByteArray)⟩ : S66) [.int .i64 31, .string (⟨#[69, 77, 76, 73, 78, 75]⟩ : ByteArray)] from (k66_mkM _ _ _ (⟨31, (⟨#[69, 77, 76, 73, 78, 75]⟩ : ByteArray)⟩ : S66) )) (Reps.c2 (show Kd.M k66 _ _ _ (⟨36, (⟨#[69, 78, 65, 77, 69, 84, 79, 79, 76, 79, 78, 71]⟩ : ByteArray)⟩ : S66) [.int .i64 36, .string (⟨#[69, 78, 65, 77, 69, 84, 79, 79, 76, 79, 78, 71]⟩ : ByteArray)] from (k66_mkM _ _ _ (⟨36, (⟨#[69, 78, 65, 77, 69, 84, 79, 79, 76, 79, 78, 71]⟩ : ByteArray)⟩ : S66) )) (Reps.c2 (show Kd.M k66 _ _ _ (⟨39, (⟨#[69, 78, 79, 84, 69, 77, 80, 84, 89]⟩ : ByteArray)⟩ : S66) [.int .i64 39, .string (⟨#[69, 78, 79, 84, 69, 77, 80, 84, 89]⟩ : ByteArray)] from (k66_mkM _ _ _ (⟨39, (⟨#[69, 78, 79, 84, 69, 77, 80, 84, 89]⟩ : ByteArray)⟩ : S66) )) (Reps.c2 (show Kd.M k66 _ _ _ (⟨40, (⟨#[69, 76, 79, 79, 80]⟩ : ByteArray)⟩ : S66) [.int .i64 40, .string (⟨#[69, 76, 79, 79, 80]⟩ : ByteArray)] from (k66_mkM _ _ _ (⟨40, (⟨#[69, 76, 79, 79, 80]⟩ : ByteArray)⟩ : S66) )) (Reps.c2 (show Kd.M k66 _ _ _ (⟨117, (⟨#[69, 85, 67, 76, 69, 65, 78]⟩ : ByteArray)⟩ : S66) [.int .i64 117, .string (⟨#[69, 85, 67, 76, 69, 65, 78]⟩ : ByteArray)] from (k66_mkM _ _ _ (⟨117, (⟨#[69, 85, 67, 76, 69, 65, 78]⟩ : ByteArray)⟩ : S66) )) (Reps.none _ _))))))))))))))))))))))))); intro v104 w1 ho2 hb hg_ hnew_; clear hg_ hnew_; (first | rw [← Ny103.out] at ho2 | (simp only [Int.reduceToNat] at ho2; rw [← Ny103.out] at ho2)); have n0_ := Aside0.mk (Kd.R_lower ho2 (below_size (by repeat (first | (with_reducible first | exact HB.out | apply below_alloc | apply pw_below_drewN | apply below_drew1) | exact HB.out)))); have n1_ := Aside0.mk (below_step (by repeat (first | (with_reducible first | exact HB.out | apply below_alloc | apply pw_below_drewN | apply below_drew1) | exact HB.out)) hb); clear HB; have HO105 := n0_; have HB := n1_; clear n0_ n1_; clear hb ho2))
  go_ret
  exact ⟨_, by first | rfl | (simp [errW_none, errW_some] <;> rfl) | (simp [*, errW_none, errW_some] <;> rfl), by (with_reducible repeat (first | apply Kd.R_alloc | apply Kd.R_drewN | apply Kd.R_drew)); exact HO105.out, by repeat (first | (with_reducible first | exact HB.out | apply below_alloc | apply pw_below_drewN | apply below_drew1) | exact HB.out)⟩

/-! ### fault_Find: function 10 -/
def fault_Find.l0 : Nat → ByteArray → List (S66) → Int → Int → Option (Int × Bool)
  | 0, _, _, _, _ => none
  | k + 1, x0, x6, x7, x8 => if x8 < x7 then (if 0 ≤ x8 then (if x8 < (x6.length : Int) then (if ((rd_T66 x6 x8).f1).toList = x0.toList then (some ((rd_T66 x6 x8).f0, true)) else (fault_Find.l0 k x0 x6 x7 (wrap64 (x8 + 1)))) else (none)) else (none)) else (some (0, false))
def fault_Find.f (k : Nat) (a0 : ByteArray) : Option (Int × Bool) := (fault_all.f).bind fun t106 => (fault_Find.l0 k a0 t106 (t106.length : Int) 0)
theorem fault_Find.mono_l : ∀ k, (∀ y0 y1 y2 y3, LeO (fault_Find.l0 k y0 y1 y2 y3) (fault_Find.l0 (k + 1) y0 y1 y2 y3))
  | 0 => fun _ _ _ _ r h => by simp [fault_Find.l0] at h
  | k + 1 => by
    have ih0 := fault_Find.mono_l k
    · intro y0 y1 y2 y3
      unfold fault_Find.l0
      repeat' first
      | (with_reducible exact ih0 _ _ _ _)
      | (with_reducible exact LeO.refl _)
      | (with_reducible exact LeO.none _)
      | (with_reducible refine LeO.ite ?_ ?_)
      | (with_reducible refine LeO.bind ?_ (fun _ => ?_))
      | exact ih0 _ _ _ _
      | exact LeO.none _
      | refine LeO.ite ?_ ?_
      | refine LeO.bind ?_ (fun _ => ?_)
theorem fault_Find.mono : ∀ a0 k, LeO (fault_Find.f k a0) (fault_Find.f (k + 1) a0) := by
  intro a0 k
  have ih0 := fault_Find.mono_l k
  unfold fault_Find.f
  repeat' first
      | (with_reducible exact ih0 _ _ _ _)
      | (with_reducible exact LeO.refl _)
      | (with_reducible exact LeO.none _)
      | (with_reducible refine LeO.ite ?_ ?_)
      | (with_reducible refine LeO.bind ?_ (fun _ => ?_))
      | exact ih0 _ _ _ _
      | exact LeO.none _
      | refine LeO.ite ?_ ?_
      | refine LeO.bind ?_ (fun _ => ?_)
set_option maxHeartbeats 8000000 in
set_option maxRecDepth 100000 in
theorem fault_Find.calls (k : Nat) (a0 : ByteArray) (r1 : Int) (r2 : Bool) (w : World) (h : fault_Find.f k a0 = some (r1, r2)) :
    Calls Tryd.prog 10 #[.string a0] w fun e w' => e = .returned (.tuple #[.int .i64 r1, .bool r2]) ∧ Below w.heap.size w w' := by
  have hu66 := Tryd.underlying66
  have HB := Aside0.mk (Below.refl w.heap.size w)
  have H : ((fault_all.f).bind fun t106 => (fault_Find.l0 k a0 t106 (t106.length : Int) 0)) = some (r1, r2) := h
  clear h
  replace H := Option.bind_eq_some_iff.mp H
  obtain ⟨t106, A20, H⟩ := H
  replace H : (fault_Find.l0 k a0 t106 (t106.length : Int) 0) = some (r1, r2) := H
  have A2 := Aside0.mk A20
  clear A20
  have H' := Aside0.mk H
  clear H
  go_enter Tryd.func10, Tryd.ntmps10
  go_wp2_with (first | ((with_reducible refine gate_callee (f := 32) rfl ?_); refine goesL_ (some 6) rfl rfl Tryd.func32 (by kernel_rfl) rfl #[] rfl (by (try simp only [List.map_toArray, List.map_cons, List.map_nil]); first | done | rfl | (simp only [List.length_drop, List.length_take]; rfl)) ?_; (with_reducible refine (fault_all.calls  t106 _ A2.out).mono ?_); rintro e w3 ⟨v107, rfl, ho0, hb⟩; refine ⟨_, rfl, ?_⟩; have n0_ := Aside0.mk (Kd.R_lower ho0 (below_size (by repeat (first | (with_reducible first | exact HB.out | apply below_alloc | apply pw_below_drewN | apply below_drew1) | exact HB.out)))); have n1_ := Aside0.mk (below_step (by repeat (first | (with_reducible first | exact HB.out | apply below_alloc | apply pw_below_drewN | apply below_drew1) | exact HB.out)) hb); clear HB; have HO108 := n0_; have HB := n1_; clear n0_ n1_; (try clear hb); (try clear hb2); (try clear hk); (try clear hi); (try clear ho0); obtain ⟨Ao4, co4, eo4⟩ := Kd.R_slice HO108.out; subst eo4))
  go_loopg [8] k (fun kq v8 w' => ∃ (x8_1 : Int), v8 = .int .i64 x8_1 ∧ Aside0 (fault_Find.l0 kq a0 t106 (t106.length : Int) x8_1 = some (r1, r2)) ∧ Aside0 (kq ≤ k) ∧ Aside0 (Kd.R k66 66 w' w.heap.size (fun _ => True) (.slice Ao4 t106.length co4) t106) ∧ Aside0 (Below w.heap.size w w'))
  case atStart => exact ⟨(0), (by first | rfl | (simp; done) | (simp [*]; done) | (simp [wrap64]; done)), H', ⟨Nat.le_refl _⟩, ⟨by (with_reducible repeat (first | apply Kd.R_alloc | apply Kd.R_drewN | apply Kd.R_drew)); exact HO108.out⟩, ⟨by repeat (first | (with_reducible first | exact HB.out | apply below_alloc | apply pw_below_drewN | apply below_drew1) | exact HB.out)⟩⟩
  case round =>
    clear H'
    try clear c1
    try clear p2
    try clear c3
    obtain ⟨x8_1, rfl, HA, HK1, HO_6, HB⟩ := hrel
    cases gk with
    | zero => exact absurd HA.out (by simp [fault_Find.l0])
    | succ k1 =>
      have H := HA.out
      clear HA
      simp only [fault_Find.l0] at H
      by_cases c5 : x8_1 < (t106.length : Int)
      · rw [if_pos c5] at H
        have c5b0 : decide (x8_1 < (t106.length : Int)) = true := decide_eq_true c5
        clear c5
        by_cases c6 : 0 ≤ x8_1
        · rw [if_pos c6] at H
          have c6b0 : decide (0 ≤ x8_1) = true := decide_eq_true c6
          clear c6
          by_cases c7 : x8_1 < (t106.length : Int)
          · rw [if_pos c7] at H
            have c7b0 : decide (x8_1 < (t106.length : Int)) = true := decide_eq_true c7
            clear c7
            by_cases c8 : ((rd_T66 t106 x8_1).f1).toList = a0.toList
            · rw [if_pos c8] at H
              have c8b0 : (((rd_T66 t106 x8_1).f1).toList == a0.toList) = true := beq_iff_eq.mpr c8
              have c8b1 : (((rd_T66 t106 x8_1).f1).toList != a0.toList) = false := bne_eq_false_iff_eq.mpr c8
              clear c8
              simp only [Option.some.injEq, Prod.mk.injEq] at H
              obtain ⟨rfl, rfl⟩ := H
              have p109 : 0 ≤ (x8_1 : Int) := of_decide_eq_true (by first | (with_reducible assumption) | assumption)
              have q109 : x8_1 < (t106.length : Int) := of_decide_eq_true (by first | (with_reducible assumption) | assumption)
              obtain ⟨ad109, e109, hx109_0, hx109_1⟩ := at_T66 (Kd.R_reads' HO_6.out).2.2 x8_1 p109 q109
              cases e109
              replace p109 := eq_true p109
              replace q109 := eq_true q109
              go_wp2_with (first | ((with_reducible refine gate_dst (N := 5) rfl ?_); refine box_event ?hg (N := 5) ?hd (cs := #[.int .i64 0, .string (⟨#[]⟩ : ByteArray)]) (t := 66) ?hr ?_; (case hd => rfl); (case hg => rfl); (case hr => first | (go_simp; done) | (go_simp; rfl)); intro gb110 hg w9 hbox hb; have n0_ := Aside0.mk (Kd.R_below (Kd.R_elderB (by (with_reducible repeat (first | apply Kd.R_alloc | apply Kd.R_drewN | apply Kd.R_drew)); exact HO_6.out) gb110 (Nat.le_of_eq hg.symm)) hb); have n1_ := Aside0.mk (below_step (by repeat (first | (with_reducible first | exact HB.out | apply below_alloc | apply pw_below_drewN | apply below_drew1) | exact HB.out)) hb); have n2_ := Aside0.mk (hbox); have n3_ := Aside0.mk ((by rw [hg]; exact (below_size (by repeat (first | (with_reducible first | exact HB.out | apply below_alloc | apply pw_below_drewN | apply below_drew1) | exact HB.out))) : w.heap.size ≤ gb110)); have n4_ := Aside0.mk ((by rw [hg]; exact (below_size (by repeat (first | (with_reducible first | exact HB.out | apply below_alloc | apply pw_below_drewN | apply below_drew1) | exact HB.out))) : w.heap.size ≤ gb110)); clear HO_6; clear HB; have HO_6 := n0_; have HB := n1_; have BK110 := n2_; have GW110 := n3_; have GE110 := n4_; clear n0_ n1_ n2_ n3_ n4_; clear hb hbox hg; have hcz10_0 : w9.cell? ⟨gb110, 0, none⟩ = some (.int .i64 0) := (blk_cell BK110.out 0).trans rfl; have hcz10_1 : w9.cell? ⟨gb110, 1, none⟩ = some (.string (⟨#[]⟩ : ByteArray)) := (blk_cell BK110.out 1).trans rfl; have hfz10_0 := blk_frozen BK110.out 0; have hfz10_1 := blk_frozen BK110.out 1))
              go_ret2
              exact ⟨by first | rfl | exact isEmpty_bne_ _ | (simp [errW_none, errW_some] <;> rfl) | (simp [*, errW_none, errW_some] <;> rfl), by repeat (first | (with_reducible first | exact HB.out | apply below_alloc | apply pw_below_drewN | apply below_drew1 | refine below_set ?_ GE110.out) | exact HB.out)⟩
            · rw [if_neg c8] at H
              have c8b0 : (((rd_T66 t106 x8_1).f1).toList == a0.toList) = false := beq_eq_false_iff_ne.mpr c8
              have c8b1 : (((rd_T66 t106 x8_1).f1).toList != a0.toList) = true := bne_iff_ne.mpr c8
              have H' := Aside0.mk H
              clear H
              have p109 : 0 ≤ (x8_1 : Int) := of_decide_eq_true (by first | (with_reducible assumption) | assumption)
              have q109 : x8_1 < (t106.length : Int) := of_decide_eq_true (by first | (with_reducible assumption) | assumption)
              obtain ⟨ad109, e109, hx109_0, hx109_1⟩ := at_T66 (Kd.R_reads' HO_6.out).2.2 x8_1 p109 q109
              cases e109
              replace p109 := eq_true p109
              replace q109 := eq_true q109
              go_wp2_with (first | ((with_reducible refine gate_dst (N := 5) rfl ?_); refine box_event ?hg (N := 5) ?hd (cs := #[.int .i64 0, .string (⟨#[]⟩ : ByteArray)]) (t := 66) ?hr ?_; (case hd => rfl); (case hg => rfl); (case hr => first | (go_simp; done) | (go_simp; rfl)); intro gb110 hg w11 hbox hb; have n0_ := Aside0.mk (Kd.R_below (Kd.R_elderB (by (with_reducible repeat (first | apply Kd.R_alloc | apply Kd.R_drewN | apply Kd.R_drew)); exact HO_6.out) gb110 (Nat.le_of_eq hg.symm)) hb); have n1_ := Aside0.mk (below_step (by repeat (first | (with_reducible first | exact HB.out | apply below_alloc | apply pw_below_drewN | apply below_drew1) | exact HB.out)) hb); have n2_ := Aside0.mk (hbox); have n3_ := Aside0.mk ((by rw [hg]; exact (below_size (by repeat (first | (with_reducible first | exact HB.out | apply below_alloc | apply pw_below_drewN | apply below_drew1) | exact HB.out))) : w.heap.size ≤ gb110)); have n4_ := Aside0.mk ((by rw [hg]; exact (below_size (by repeat (first | (with_reducible first | exact HB.out | apply below_alloc | apply pw_below_drewN | apply below_drew1) | exact HB.out))) : w.heap.size ≤ gb110)); clear HO_6; clear HB; have HO_6 := n0_; have HB := n1_; have BK110 := n2_; have GW110 := n3_; have GE110 := n4_; clear n0_ n1_ n2_ n3_ n4_; clear hb hbox hg; have hcz12_0 : w11.cell? ⟨gb110, 0, none⟩ = some (.int .i64 0) := (blk_cell BK110.out 0).trans rfl; have hcz12_1 : w11.cell? ⟨gb110, 1, none⟩ = some (.string (⟨#[]⟩ : ByteArray)) := (blk_cell BK110.out 1).trans rfl; have hfz12_0 := blk_frozen BK110.out 0; have hfz12_1 := blk_frozen BK110.out 1))
              go_roundg k1
              case measure => have := HK1.out; omega
              case rel => exact ⟨(wrap64 (x8_1 + 1)), (by first | rfl | (simp; done) | (simp [*]; done) | (simp [wrap64]; done)), H', ⟨by have := HK1.out; omega⟩, ⟨by (with_reducible repeat (first | apply Kd.R_alloc | apply Kd.R_drewN | apply Kd.R_drew)); exact Kd.R_mono (Kd.R_far (p := ⟨gb110, 1, none⟩) (Kd.R_far (p := ⟨gb110, 0, none⟩) (Kd.R_mono HO_6.out (fun k_ hk => (⟨hk, hk.2⟩ : _ ∧ k_ ≠ gb110))) (fun _ hk => hk.2) (.int .i64 ((rd_T66 t106 x8_1).f0))) (fun _ hk => hk.2) (.string ((rd_T66 t106 x8_1).f1))) (fun _ hk => trivial)⟩, ⟨by repeat (first | (with_reducible first | exact HB.out | apply below_alloc | apply pw_below_drewN | apply below_drew1 | refine below_set ?_ GE110.out) | exact HB.out)⟩⟩
          · rw [if_neg c7] at H
            exact absurd H (by simp)
        · rw [if_neg c6] at H
          exact absurd H (by simp)
      · rw [if_neg c5] at H
        have c5b0 : decide (x8_1 < (t106.length : Int)) = false := decide_eq_false c5
        clear c5
        simp only [Option.some.injEq, Prod.mk.injEq] at H
        obtain ⟨rfl, rfl⟩ := H
        go_wp2
        go_ret2
        exact ⟨by first | rfl | exact isEmpty_bne_ _ | (simp [errW_none, errW_some] <;> rfl) | (simp [*, errW_none, errW_some] <;> rfl), by repeat (first | (with_reducible first | exact HB.out | apply below_alloc | apply pw_below_drewN | apply below_drew1) | exact HB.out)⟩

end Go.Proofs.YtfmmmojlnfndkaaDoor.Q
