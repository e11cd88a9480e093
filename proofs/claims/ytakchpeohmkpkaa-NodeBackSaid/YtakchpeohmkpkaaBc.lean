/- Q5, K3, H6, S2, K4, S3 -/
import Derived.Laws.AppendOwn
import Derived.Test.YtakchpeohmkpkaaBa
import Derived.Test.YtakchpeohmkpkaaBb
namespace Go.Proofs.Ytakchpeohmkpkaa.Q
open Go.RowKit Go.Proofs.YtakchpeohmkpkaaW.PrintWords Go.Proofs.YtakchpeohmkpkaaW.PrintLast Go.Proofs.YtakchpeohmkpkaaW.PrintMore
attribute [local go_sem] max2_int min2_int max_two min_two max_three min_three max_four min_four   -- for this text's walks alone
set_option linter.unusedVariables false
set_option linter.unusedSimpArgs false

/-! ### pumiceref02_Has: function 74 -/
def pumiceref02_Has.l0 : Nat → ByteArray → Int → Int → Option (Bool)
  | 0, _, _, _ => none
  | k + 1, x0, x1, x5 => if x5 < (x0.size : Int) then (if 0 ≤ x5 then (if (bt x0 x5) = x1 then (some true) else (pumiceref02_Has.l0 k x0 x1 (wrap64 (x5 + 1)))) else (none)) else (some false)
def pumiceref02_Has.f (k : Nat) (a0 : ByteArray) (a1 : Int) : Option (Bool) := pumiceref02_Has.l0 k a0 a1 0
theorem pumiceref02_Has.mono_l : ∀ k, (∀ y0 y1 y2, LeO (pumiceref02_Has.l0 k y0 y1 y2) (pumiceref02_Has.l0 (k + 1) y0 y1 y2))
  | 0 => fun _ _ _ r h => by simp [pumiceref02_Has.l0] at h
  | k + 1 => by
    have ih0 := pumiceref02_Has.mono_l k
    · intro y0 y1 y2
      unfold pumiceref02_Has.l0
      repeat' first
      | (with_reducible exact ih0 _ _ _)
      | (with_reducible exact LeO.refl _)
      | (with_reducible exact LeO.none _)
      | (with_reducible refine LeO.ite ?_ ?_)
      | (with_reducible refine LeO.bind ?_ (fun _ => ?_))
      | exact ih0 _ _ _
      | exact LeO.none _
      | refine LeO.ite ?_ ?_
      | refine LeO.bind ?_ (fun _ => ?_)
theorem pumiceref02_Has.mono : ∀ a0 a1 k, LeO (pumiceref02_Has.f k a0 a1) (pumiceref02_Has.f (k + 1) a0 a1) := by
  intro a0 a1 k
  have ih0 := pumiceref02_Has.mono_l k
  unfold pumiceref02_Has.f
  repeat' first
      | (with_reducible exact ih0 _ _ _)
      | (with_reducible exact LeO.refl _)
      | (with_reducible exact LeO.none _)
      | (with_reducible refine LeO.ite ?_ ?_)
      | (with_reducible refine LeO.bind ?_ (fun _ => ?_))
      | exact ih0 _ _ _
      | exact LeO.none _
      | refine LeO.ite ?_ ?_
      | refine LeO.bind ?_ (fun _ => ?_)
set_option maxHeartbeats 8000000 in
set_option maxRecDepth 100000 in
theorem pumiceref02_Has.calls (k : Nat) (a0 : ByteArray) (a1 : Int) (r : Bool) (w : World) (h : pumiceref02_Has.f k a0 a1 = some r) :
    Calls Try.prog 74 #[.string a0, .int .u8 a1] w fun e w' => e = .returned (.bool r) ∧ Drawn0 w w' := by
  have H : (pumiceref02_Has.l0 k a0 a1 0) = some r := h
  clear h
  have H' := Aside0.mk H
  clear H
  go_enter Try.func74, Try.ntmps74
  go_wp2
  go_loopg [5] k (fun kq v5 w' => ∃ (x5_1 : Int), v5 = .int .i64 x5_1 ∧ Aside0 (pumiceref02_Has.l0 kq a0 a1 x5_1 = some r) ∧ Aside0 (kq ≤ k) ∧ Drawn0 w w')
  case atStart => exact ⟨(0), (by first | rfl | (simp; done) | (simp [*]; done) | (simp [wrap64]; done)), H', ⟨Nat.le_refl _⟩, by repeat (first | exact Drawn0.refl _ | apply Drawn0.step)⟩
  case round =>
    clear H'
    try clear p2
    obtain ⟨x5_1, rfl, HA, HK1, ⟨m1, rfl⟩⟩ := hrel
    cases gk with
    | zero => exact absurd HA.out (by simp [pumiceref02_Has.l0])
    | succ k1 =>
      have H := HA.out
      clear HA
      simp only [pumiceref02_Has.l0] at H
      by_cases c3 : x5_1 < (a0.size : Int)
      · rw [if_pos c3] at H
        have c3b0 : decide (x5_1 < (a0.size : Int)) = true := decide_eq_true c3
        clear c3
        by_cases c4 : 0 ≤ x5_1
        · rw [if_pos c4] at H
          have c4b0 : decide (0 ≤ x5_1) = true := decide_eq_true c4
          clear c4
          by_cases c6 : (bt a0 x5_1) = a1
          · rw [if_pos c6] at H
            have c6b0 : ((bt a0 x5_1) == a1) = true := beq_iff_eq.mpr c6
            have c6b1 : ((bt a0 x5_1) != a1) = false := bne_eq_false_iff_eq.mpr c6
            clear c6
            obtain rfl := Option.some.inj H
            have p5 : 0 ≤ (x5_1 : Int) := of_decide_eq_true (by first | (with_reducible assumption) | assumption)
            have q5 : x5_1 < (a0.size : Int) := of_decide_eq_true (by first | (with_reducible assumption) | assumption)
            have hx5 := bt_at a0 x5_1
            replace p5 := eq_true p5
            replace q5 := eq_true q5
            go_wp2
            go_ret
            exact ⟨by first | rfl | exact isEmpty_bne_ _ | (simp; done) | (simp [*]; done) | (simp [wrap64]; done), by repeat (first | exact Drawn0.refl _ | apply Drawn0.step)⟩
          · rw [if_neg c6] at H
            have c6b0 : ((bt a0 x5_1) == a1) = false := beq_eq_false_iff_ne.mpr c6
            have c6b1 : ((bt a0 x5_1) != a1) = true := bne_iff_ne.mpr c6
            have H' := Aside0.mk H
            clear H
            have p5 : 0 ≤ (x5_1 : Int) := of_decide_eq_true (by first | (with_reducible assumption) | assumption)
            have q5 : x5_1 < (a0.size : Int) := of_decide_eq_true (by first | (with_reducible assumption) | assumption)
            have hx5 := bt_at a0 x5_1
            replace p5 := eq_true p5
            replace q5 := eq_true q5
            go_wp2
            go_roundg k1
            case measure => have := HK1.out; omega
            case rel => exact ⟨(wrap64 (x5_1 + 1)), (by first | rfl | (simp; done) | (simp [*]; done) | (simp [wrap64]; done)), H', ⟨by have := HK1.out; omega⟩, by repeat (first | exact Drawn0.refl _ | apply Drawn0.step)⟩
        · rw [if_neg c4] at H
          exact absurd H (by simp)
      · rw [if_neg c3] at H
        have c3b0 : decide (x5_1 < (a0.size : Int)) = false := decide_eq_false c3
        clear c3
        obtain rfl := Option.some.inj H
        go_wp2
        go_ret
        exact ⟨by first | rfl | exact isEmpty_bne_ _ | (simp; done) | (simp [*]; done) | (simp [wrap64]; done), by repeat (first | exact Drawn0.refl _ | apply Drawn0.step)⟩

/-! ### pumiceref02_Right: function 66 -/
def pumiceref02_Right.j0 : Nat → ByteArray → Bool → Option (Int)
  | 0, _, _ => none
  | k + 1, x0, x18 => if x18 = true then (some 22) else (if (x0.size : Int) > 24 then (some 36) else (some 0))
def pumiceref02_Right.f (k : Nat) (a0 : ByteArray) : Option (Int) := if a0.toList = ([] : List UInt8) then (some 2) else ((pumiceref02_Has.f k a0 47).bind fun t120 => (if t120 = true then (pumiceref02_Right.j0 k a0 true) else ((pumiceref02_Has.f k a0 0).bind fun t121 => (if t121 = true then (pumiceref02_Right.j0 k a0 true) else (if a0.toList = ([46] : List UInt8) then (pumiceref02_Right.j0 k a0 true) else (pumiceref02_Right.j0 k a0 (a0.toList == ([46, 46] : List UInt8))))))))
theorem pumiceref02_Right.mono_l : ∀ k, (∀ y0 y1, LeO (pumiceref02_Right.j0 k y0 y1) (pumiceref02_Right.j0 (k + 1) y0 y1))
  | 0 => fun _ _ r h => by simp [pumiceref02_Right.j0] at h
  | k + 1 => by
    have ih0 := pumiceref02_Right.mono_l k
    · intro y0 y1
      unfold pumiceref02_Right.j0
      repeat' first
      | (with_reducible exact ih0 _ _)
      | (with_reducible exact pumiceref02_Has.mono _ _ _)
      | (with_reducible exact LeO.refl _)
      | (with_reducible exact LeO.none _)
      | (with_reducible refine LeO.ite ?_ ?_)
      | (with_reducible refine LeO.bind ?_ (fun _ => ?_))
      | exact ih0 _ _
      | exact pumiceref02_Has.mono _ _ _
      | exact LeO.none _
      | refine LeO.ite ?_ ?_
      | refine LeO.bind ?_ (fun _ => ?_)
theorem pumiceref02_Right.mono : ∀ a0 k, LeO (pumiceref02_Right.f k a0) (pumiceref02_Right.f (k + 1) a0) := by
  intro a0 k
  have ih0 := pumiceref02_Right.mono_l k
  unfold pumiceref02_Right.f
  repeat' first
      | (with_reducible exact ih0 _ _)
      | (with_reducible exact pumiceref02_Has.mono _ _ _)
      | (with_reducible exact LeO.refl _)
      | (with_reducible exact LeO.none _)
      | (with_reducible refine LeO.ite ?_ ?_)
      | (with_reducible refine LeO.bind ?_ (fun _ => ?_))
      | exact ih0 _ _
      | exact pumiceref02_Has.mono _ _ _
      | exact LeO.none _
      | refine LeO.ite ?_ ?_
      | refine LeO.bind ?_ (fun _ => ?_)
set_option maxHeartbeats 8000000 in
set_option maxRecDepth 100000 in
theorem pumiceref02_Right.calls (k : Nat) (a0 : ByteArray) (r : Int) (w : World) (h : pumiceref02_Right.f k a0 = some r) :
    Calls Try.prog 66 #[.string a0] w fun e w' => e = .returned (.int .i64 r) ∧ Drawn0 w w' := by
  have H : (if a0.toList = ([] : List UInt8) then (some 2) else ((pumiceref02_Has.f k a0 47).bind fun t120 => (if t120 = true then (pumiceref02_Right.j0 k a0 true) else ((pumiceref02_Has.f k a0 0).bind fun t121 => (if t121 = true then (pumiceref02_Right.j0 k a0 true) else (if a0.toList = ([46] : List UInt8) then (pumiceref02_Right.j0 k a0 true) else (pumiceref02_Right.j0 k a0 (a0.toList == ([46, 46] : List UInt8))))))))) = some r := h
  clear h
  by_cases c2 : a0.toList = ([] : List UInt8)
  · rw [if_pos c2] at H
    have c2b0 : (a0.toList == ([] : List UInt8)) = true := beq_iff_eq.mpr c2
    have c2b1 : (a0.toList != ([] : List UInt8)) = false := bne_eq_false_iff_eq.mpr c2
    clear c2
    obtain rfl := Option.some.inj H
    go_enter Try.func66, Try.ntmps66
    go_wp2
    go_ret
    exact ⟨by first | rfl | exact isEmpty_bne_ _ | (simp; done) | (simp [*]; done) | (simp [wrap64]; done), by repeat (first | exact Drawn0.refl _ | apply Drawn0.step)⟩
  · rw [if_neg c2] at H
    have c2b0 : (a0.toList == ([] : List UInt8)) = false := beq_eq_false_iff_ne.mpr c2
    have c2b1 : (a0.toList != ([] : List UInt8)) = true := bne_iff_ne.mpr c2
    have HC3 := Aside0.mk H
    clear H
    go_enter Try.func66, Try.ntmps66
    go_upto_region 3 with (fail)
    go_cut [18] (fun v18 wc => ∃ (kq : Nat) (x18_2 : Bool), v18 = .bool x18_2 ∧ Aside0 (pumiceref02_Right.j0 kq a0 x18_2 = some r) ∧ Aside0 (kq ≤ k) ∧ Drawn0 w wc)
    case first =>
      have H := HC3.out
      clear HC3
      replace H := Option.bind_eq_some_iff.mp H
      obtain ⟨t120, A40, H⟩ := H
      replace H : (if t120 = true then (pumiceref02_Right.j0 k a0 true) else ((pumiceref02_Has.f k a0 0).bind fun t121 => (if t121 = true then (pumiceref02_Right.j0 k a0 true) else (if a0.toList = ([46] : List UInt8) then (pumiceref02_Right.j0 k a0 true) else (pumiceref02_Right.j0 k a0 (a0.toList == ([46, 46] : List UInt8))))))) = some r := H
      have A4 := Aside0.mk A40
      clear A40
      by_cases c5 : t120 = true
      · subst c5
        have H1 : (pumiceref02_Right.j0 k a0 true) = some r := by rw [if_pos rfl] at H; exact H
        clear H
        have H := H1
        clear H1
        have H' := Aside0.mk H
        clear H
        go_wp2_with (first | ((with_reducible refine gate_callee (f := 74) rfl ?_); refine goesL_ (some 6) rfl rfl Try.func74 (by kernel_rfl) rfl #[.string a0, .int .u8 47] rfl (by (try simp only [List.map_toArray, List.map_cons, List.map_nil]); first | done | rfl | (simp only [List.length_drop, List.length_take]; rfl)) ?_; (with_reducible refine (pumiceref02_Has.calls k a0 47 true _ A4.out).mono ?_); rintro e w' ⟨rfl, ⟨nd, rfl⟩⟩; refine ⟨_, rfl, ?_⟩))
        go_meet
        case rel => exact ⟨_, (true), (by first | rfl | (simp; done) | (simp [*]; done) | (simp [wrap64]; done)), H', ⟨by first | omega | exact Nat.le_refl _⟩, by repeat (first | exact Drawn0.refl _ | apply Drawn0.step)⟩
      · replace c5 := Bool.eq_false_iff.mpr c5
        subst c5
        have H1 : ((pumiceref02_Has.f k a0 0).bind fun t121 => (if t121 = true then (pumiceref02_Right.j0 k a0 true) else (if a0.toList = ([46] : List UInt8) then (pumiceref02_Right.j0 k a0 true) else (pumiceref02_Right.j0 k a0 (a0.toList == ([46, 46] : List UInt8)))))) = some r := by rw [if_neg (show ¬ (false = true) by decide)] at H; exact H
        clear H
        have H := H1
        clear H1
        replace H := Option.bind_eq_some_iff.mp H
        obtain ⟨t121, A60, H⟩ := H
        replace H : (if t121 = true then (pumiceref02_Right.j0 k a0 true) else (if a0.toList = ([46] : List UInt8) then (pumiceref02_Right.j0 k a0 true) else (pumiceref02_Right.j0 k a0 (a0.toList == ([46, 46] : List UInt8))))) = some r := H
        have A6 := Aside0.mk A60
        clear A60
        by_cases c7 : t121 = true
        · subst c7
          have H1 : (pumiceref02_Right.j0 k a0 true) = some r := by rw [if_pos rfl] at H; exact H
          clear H
          have H := H1
          clear H1
          have H' := Aside0.mk H
          clear H
          go_wp2_with (first | ((with_reducible refine gate_callee (f := 74) rfl ?_); refine goesL_ (some 6) rfl rfl Try.func74 (by kernel_rfl) rfl #[.string a0, .int .u8 47] rfl (by (try simp only [List.map_toArray, List.map_cons, List.map_nil]); first | done | rfl | (simp only [List.length_drop, List.length_take]; rfl)) ?_; (with_reducible refine (pumiceref02_Has.calls k a0 47 false _ A4.out).mono ?_); rintro e w' ⟨rfl, ⟨nd, rfl⟩⟩; refine ⟨_, rfl, ?_⟩) | (go_at_call 74; (with_reducible refine (pumiceref02_Has.calls k a0 0 true _ A6.out).mono ?_); rintro e w' ⟨rfl, ⟨nd, rfl⟩⟩))
          go_meet
          case rel => exact ⟨_, (true), (by first | rfl | (simp; done) | (simp [*]; done) | (simp [wrap64]; done)), H', ⟨by first | omega | exact Nat.le_refl _⟩, by repeat (first | exact Drawn0.refl _ | apply Drawn0.step)⟩
        · replace c7 := Bool.eq_false_iff.mpr c7
          subst c7
          have H1 : (if a0.toList = ([46] : List UInt8) then (pumiceref02_Right.j0 k a0 true) else (pumiceref02_Right.j0 k a0 (a0.toList == ([46, 46] : List UInt8)))) = some r := by rw [if_neg (show ¬ (false = true) by decide)] at H; exact H
          clear H
          have H := H1
          clear H1
          by_cases c8 : a0.toList = ([46] : List UInt8)
          · rw [if_pos c8] at H
            have c8b0 : (a0.toList == ([46] : List UInt8)) = true := beq_iff_eq.mpr c8
            have c8b1 : (a0.toList != ([46] : List UInt8)) = false := bne_eq_false_iff_eq.mpr c8
            clear c8
            (first | rw [c8b0] | (simp only [i64_w, i32_w]; rw [c8b0]) | skip)
            have H' := Aside0.mk H
            clear H
            go_wp2_with (first | ((with_reducible refine gate_callee (f := 74) rfl ?_); refine goesL_ (some 6) rfl rfl Try.func74 (by kernel_rfl) rfl #[.string a0, .int .u8 47] rfl (by (try simp only [List.map_toArray, List.map_cons, List.map_nil]); first | done | rfl | (simp only [List.length_drop, List.length_take]; rfl)) ?_; (with_reducible refine (pumiceref02_Has.calls k a0 47 false _ A4.out).mono ?_); rintro e w' ⟨rfl, ⟨nd, rfl⟩⟩; refine ⟨_, rfl, ?_⟩) | (go_at_call 74; (with_reducible refine (pumiceref02_Has.calls k a0 0 false _ A6.out).mono ?_); rintro e w' ⟨rfl, ⟨nd, rfl⟩⟩))
            go_meet
            case rel => exact ⟨_, (true), (by first | rfl | (simp; done) | (simp [*]; done) | (simp [wrap64]; done)), H', ⟨by first | omega | exact Nat.le_refl _⟩, by repeat (first | exact Drawn0.refl _ | apply Drawn0.step)⟩
          · rw [if_neg c8] at H
            have c8b0 : (a0.toList == ([46] : List UInt8)) = false := beq_eq_false_iff_ne.mpr c8
            have c8b1 : (a0.toList != ([46] : List UInt8)) = true := bne_iff_ne.mpr c8
            (first | rw [c8b0] | (simp only [i64_w, i32_w]; rw [c8b0]) | skip)
            have H' := Aside0.mk H
            clear H
            go_wp2_with (first | ((with_reducible refine gate_callee (f := 74) rfl ?_); refine goesL_ (some 6) rfl rfl Try.func74 (by kernel_rfl) rfl #[.string a0, .int .u8 47] rfl (by (try simp only [List.map_toArray, List.map_cons, List.map_nil]); first | done | rfl | (simp only [List.length_drop, List.length_take]; rfl)) ?_; (with_reducible refine (pumiceref02_Has.calls k a0 47 false _ A4.out).mono ?_); rintro e w' ⟨rfl, ⟨nd, rfl⟩⟩; refine ⟨_, rfl, ?_⟩) | (go_at_call 74; (with_reducible refine (pumiceref02_Has.calls k a0 0 false _ A6.out).mono ?_); rintro e w' ⟨rfl, ⟨nd, rfl⟩⟩))
            go_meet
            case rel => exact ⟨_, ((a0.toList == ([46, 46] : List UInt8))), (by first | rfl | (simp; done) | (simp [*]; done) | (simp [wrap64]; done)), H', ⟨by first | omega | exact Nat.le_refl _⟩, by repeat (first | exact Drawn0.refl _ | apply Drawn0.step)⟩
    case rest =>
      clear HC3
      try clear c2
      try clear c2b0
      try clear c2b1
      try clear p2
      try clear c5
      try clear c6
      try clear p6
      try clear c7
      try clear c8
      try clear c8b0
      try clear c8b1
      obtain ⟨kq, x18_2, rfl, HA, HJ2, ⟨mc2, rfl⟩⟩ := hcut
      cases kq with
      | zero => exact absurd HA.out (by simp [pumiceref02_Right.j0])
      | succ kj2 =>
        have H := HA.out
        clear HA
        simp only [pumiceref02_Right.j0] at H
        by_cases c9 : x18_2 = true
        · subst c9
          have H1 : (some 22) = some r := by rw [if_pos rfl] at H; exact H
          clear H
          have H := H1
          clear H1
          obtain rfl := Option.some.inj H
          go_wp2
          go_ret
          exact ⟨by first | rfl | exact isEmpty_bne_ _ | (simp; done) | (simp [*]; done) | (simp [wrap64]; done), by repeat (first | exact Drawn0.refl _ | apply Drawn0.step)⟩
        · replace c9 := Bool.eq_false_iff.mpr c9
          subst c9
          have H1 : (if (a0.size : Int) > 24 then (some 36) else (some 0)) = some r := by rw [if_neg (show ¬ (false = true) by decide)] at H; exact H
          clear H
          have H := H1
          clear H1
          by_cases c10 : (a0.size : Int) > 24
          · rw [if_pos c10] at H
            have c10b0 : decide (24 < (a0.size : Int)) = true := decide_eq_true c10
            have c10b1 : decide (24 < a0.size) = true := decide_eq_true (by omega)
            clear c10
            obtain rfl := Option.some.inj H
            go_wp2
            go_ret
            exact ⟨by first | rfl | exact isEmpty_bne_ _ | (simp; done) | (simp [*]; done) | (simp [wrap64]; done), by repeat (first | exact Drawn0.refl _ | apply Drawn0.step)⟩
          · rw [if_neg c10] at H
            have c10b0 : decide (24 < (a0.size : Int)) = false := decide_eq_false c10
            have c10b1 : decide (24 < a0.size) = false := decide_eq_false (by omega)
            clear c10
            obtain rfl := Option.some.inj H
            go_wp2
            go_ret
            exact ⟨by first | rfl | exact isEmpty_bne_ _ | (simp; done) | (simp [*]; done) | (simp [wrap64]; done), by repeat (first | exact Drawn0.refl _ | apply Drawn0.step)⟩

/-! ### node_number: function 55 -/
def node_number.f (a0 : ByteArray) : Option (Int) := if 0 < (a0.size : Int) then (if 1 < (a0.size : Int) then (some (Go.bits .or .i64 (wrap64 ((wrap64 (bt a0 0)) * 256)) (wrap64 (bt a0 1)))) else (none)) else (none)
set_option maxHeartbeats 8000000 in
set_option maxRecDepth 100000 in
theorem node_number.calls (a0 : ByteArray) (r : Int) (w : World) (h : node_number.f a0 = some r) :
    Calls Try.prog 55 #[.string a0] w fun e w' => e = .returned (.int .i64 r) ∧ Drawn0 w w' := by
  have H : (if 0 < (a0.size : Int) then (if 1 < (a0.size : Int) then (some (Go.bits .or .i64 (wrap64 ((wrap64 (bt a0 0)) * 256)) (wrap64 (bt a0 1)))) else (none)) else (none)) = some r := h
  clear h
  by_cases c2 : 0 < (a0.size : Int)
  · rw [if_pos c2] at H
    have c2b0 : decide (0 < (a0.size : Int)) = true := decide_eq_true c2
    have c2b1 : decide (0 < a0.size) = true := decide_eq_true (by omega)
    clear c2
    by_cases c4 : 1 < (a0.size : Int)
    · rw [if_pos c4] at H
      have c4b0 : decide (1 < (a0.size : Int)) = true := decide_eq_true c4
      have c4b1 : decide (1 < a0.size) = true := decide_eq_true (by omega)
      clear c4
      obtain rfl := Option.some.inj H
      have p3 : 0 ≤ (0 : Int) := (by omega)
      have q3 : 0 < a0.size := (by have : (0 : Int) < (a0.size : Int) := of_decide_eq_true (by first | (with_reducible assumption) | assumption); omega)
      have hx3 : ∀ h : 0 < a0.size, ((a0[0]'h).toNat : Int) = bt a0 0 := bt_at a0 0
      clear p3
      have qi3 : (0 < (a0.size : Int)) = True := eq_true (of_decide_eq_true (by first | (with_reducible assumption) | assumption))
      replace q3 := eq_true q3
      have p5 : 0 ≤ (1 : Int) := (by omega)
      have q5 : 1 < a0.size := (by have : (1 : Int) < (a0.size : Int) := of_decide_eq_true (by first | (with_reducible assumption) | assumption); omega)
      have hx5 : ∀ h : 1 < a0.size, ((a0[1]'h).toNat : Int) = bt a0 1 := bt_at a0 1
      clear p5
      have qi5 : (1 < (a0.size : Int)) = True := eq_true (of_decide_eq_true (by first | (with_reducible assumption) | assumption))
      replace q5 := eq_true q5
      go_enter Try.func55, Try.ntmps55
      go_wp2
      repeat (go_quiet (fail); try go_wp2)
      go_ret
      exact ⟨by first | rfl | exact isEmpty_bne_ _ | (simp; done) | (simp [*]; done) | (simp [wrap64]; done), by repeat (first | exact Drawn0.refl _ | apply Drawn0.step)⟩
    · rw [if_neg c4] at H
      exact absurd H (by simp)
  · rw [if_neg c2] at H
    exact absurd H (by simp)

/-! ### node_goodBlock: function 57 -/
def node_goodBlock.f (a0 : Int) : Option (Bool) := if a0 ≥ 0 then (some (decide (a0 < 128))) else (some false)
set_option maxHeartbeats 8000000 in
set_option maxRecDepth 100000 in
theorem node_goodBlock.calls (a0 : Int) (r : Bool) (w : World) (h : node_goodBlock.f a0 = some r) :
    Calls Try.prog 57 #[.int .i64 a0] w fun e w' => e = .returned (.bool r) ∧ Drawn0 w w' := by
  have H : (if a0 ≥ 0 then (some (decide (a0 < 128))) else (some false)) = some r := h
  clear h
  by_cases c2 : a0 ≥ 0
  · rw [if_pos c2] at H
    have c2b0 : decide (0 ≤ a0) = true := decide_eq_true c2
    clear c2
    obtain rfl := Option.some.inj H
    go_enter Try.func57, Try.ntmps57
    go_wp2
    go_ret
    exact ⟨by first | rfl | exact isEmpty_bne_ _ | (simp; done) | (simp [*]; done) | (simp [wrap64]; done), by repeat (first | exact Drawn0.refl _ | apply Drawn0.step)⟩
  · rw [if_neg c2] at H
    have c2b0 : decide (0 ≤ a0) = false := decide_eq_false c2
    clear c2
    obtain rfl := Option.some.inj H
    go_enter Try.func57, Try.ntmps57
    go_wp2
    go_ret
    exact ⟨by first | rfl | exact isEmpty_bne_ _ | (simp; done) | (simp [*]; done) | (simp [wrap64]; done), by repeat (first | exact Drawn0.refl _ | apply Drawn0.step)⟩

/-! ### node_Right: function 22 -/
def node_Right.f (a0_0 : ByteArray) (a0_1 : ByteArray) (a0_2 : Bool) : Option (Bool) := if (a0_0.size : Int) ≥ 1 then (if (a0_0.size : Int) ≤ 64 then (if (a0_1.size : Int) ≤ 256 then (if a0_2 = true then (some (!(a0_1.toList != ([] : List UInt8)))) else (some (!false))) else (some false)) else (some false)) else (some false)
set_option maxHeartbeats 8000000 in
set_option maxRecDepth 100000 in
theorem node_Right.calls (a0_0 : ByteArray) (a0_1 : ByteArray) (a0_2 : Bool) (r : Bool) (w : World) (h : node_Right.f a0_0 a0_1 a0_2 = some r) :
    Calls Try.prog 22 #[.agg #[.string a0_0, .string a0_1, .bool a0_2]] w fun e w' => e = .returned (.bool r) ∧ Below w.heap.size w w' := by
  have hu32 := Try.underlying32
  have HB := Aside0.mk (Below.refl w.heap.size w)
  have H : (if (a0_0.size : Int) ≥ 1 then (if (a0_0.size : Int) ≤ 64 then (if (a0_1.size : Int) ≤ 256 then (if a0_2 = true then (some (!(a0_1.toList != ([] : List UInt8)))) else (some (!false))) else (some false)) else (some false)) else (some false)) = some r := h
  clear h
  by_cases c2 : (a0_0.size : Int) ≥ 1
  · rw [if_pos c2] at H
    have c2b0 : decide (1 ≤ (a0_0.size : Int)) = true := decide_eq_true c2
    have c2b1 : decide (1 ≤ a0_0.size) = true := decide_eq_true (by omega)
    clear c2
    by_cases c3 : (a0_0.size : Int) ≤ 64
    · rw [if_pos c3] at H
      have c3b0 : decide ((a0_0.size : Int) ≤ 64) = true := decide_eq_true c3
      have c3b1 : decide (a0_0.size ≤ 64) = true := decide_eq_true (by omega)
      clear c3
      by_cases c4 : (a0_1.size : Int) ≤ 256
      · rw [if_pos c4] at H
        have c4b0 : decide ((a0_1.size : Int) ≤ 256) = true := decide_eq_true c4
        have c4b1 : decide (a0_1.size ≤ 256) = true := decide_eq_true (by omega)
        clear c4
        by_cases c5 : a0_2 = true
        · subst c5
          have H1 : (some (!(a0_1.toList != ([] : List UInt8)))) = some r := by rw [if_pos rfl] at H; exact H
          clear H
          have H := H1
          clear H1
          obtain rfl := Option.some.inj H
          go_enter Try.func22, Try.ntmps22
          go_wp2_with (first | ((with_reducible refine gate_dst (N := 1) rfl ?_); (try (refine gate_guard (by rfl) ?_; dsimp only)); refine box_event ?hg (N := 1) ?hd (cs := #[.string a0_0, .string a0_1, .bool true]) (t := 32) ?hr ?_; (case hd => rfl); (case hg => rfl); (case hr => first | (go_simp; done) | (go_simp; rfl)); intro gb122 hg w6 hbox hb; have n0_ := Aside0.mk (below_step (by repeat (first | (with_reducible first | exact HB.out | apply below_alloc | apply pw_below_drewN | apply below_drew1) | exact HB.out)) hb); have n1_ := Aside0.mk (hbox); have n2_ := Aside0.mk ((by rw [hg]; exact (below_size (by repeat (first | (with_reducible first | exact HB.out | apply below_alloc | apply pw_below_drewN | apply below_drew1) | exact HB.out))) : w.heap.size ≤ gb122)); have n3_ := Aside0.mk ((by rw [hg]; exact (below_size (by repeat (first | (with_reducible first | exact HB.out | apply below_alloc | apply pw_below_drewN | apply below_drew1) | exact HB.out))) : w.heap.size ≤ gb122)); clear HB; have HB := n0_; have BK122 := n1_; have GW122 := n2_; have GE122 := n3_; clear n0_ n1_ n2_ n3_; clear hb hbox hg; have hcz7_0 : w6.cell? ⟨gb122, 0, none⟩ = some (.string a0_0) := (blk_cell BK122.out 0).trans rfl; have hcz7_1 : w6.cell? ⟨gb122, 1, none⟩ = some (.string a0_1) := (blk_cell BK122.out 1).trans rfl; have hcz7_2 : w6.cell? ⟨gb122, 2, none⟩ = some (.bool true) := (blk_cell BK122.out 2).trans rfl; have hfz7_0 := blk_frozen BK122.out 0; have hfz7_1 := blk_frozen BK122.out 1; have hfz7_2 := blk_frozen BK122.out 2))
          go_ret
          exact ⟨by first | rfl | exact isEmpty_bne_ _ | (simp [errW_none, errW_some] <;> rfl) | (simp [*, errW_none, errW_some] <;> rfl), by repeat (first | (with_reducible first | exact HB.out | apply below_alloc | apply pw_below_drewN | apply below_drew1 | refine below_set ?_ GE122.out) | exact HB.out)⟩
        · replace c5 := Bool.eq_false_iff.mpr c5
          subst c5
          have H1 : (some (!false)) = some r := by rw [if_neg (show ¬ (false = true) by decide)] at H; exact H
          clear H
          have H := H1
          clear H1
          obtain rfl := Option.some.inj H
          go_enter Try.func22, Try.ntmps22
          go_wp2_with (first | ((with_reducible refine gate_dst (N := 1) rfl ?_); (try (refine gate_guard (by rfl) ?_; dsimp only)); refine box_event ?hg (N := 1) ?hd (cs := #[.string a0_0, .string a0_1, .bool false]) (t := 32) ?hr ?_; (case hd => rfl); (case hg => rfl); (case hr => first | (go_simp; done) | (go_simp; rfl)); intro gb122 hg w8 hbox hb; have n0_ := Aside0.mk (below_step (by repeat (first | (with_reducible first | exact HB.out | apply below_alloc | apply pw_below_drewN | apply below_drew1) | exact HB.out)) hb); have n1_ := Aside0.mk (hbox); have n2_ := Aside0.mk ((by rw [hg]; exact (below_size (by repeat (first | (with_reducible first | exact HB.out | apply below_alloc | apply pw_below_drewN | apply below_drew1) | exact HB.out))) : w.heap.size ≤ gb122)); have n3_ := Aside0.mk ((by rw [hg]; exact (below_size (by repeat (first | (with_reducible first | exact HB.out | apply below_alloc | apply pw_below_drewN | apply below_drew1) | exact HB.out))) : w.heap.size ≤ gb122)); clear HB; have HB := n0_; have BK122 := n1_; have GW122 := n2_; have GE122 := n3_; clear n0_ n1_ n2_ n3_; clear hb hbox hg; have hcz9_0 : w8.cell? ⟨gb122, 0, none⟩ = some (.string a0_0) := (blk_cell BK122.out 0).trans rfl; have hcz9_1 : w8.cell? ⟨gb122, 1, none⟩ = some (.string a0_1) := (blk_cell BK122.out 1).trans rfl; have hcz9_2 : w8.cell? ⟨gb122, 2, none⟩ = some (.bool false) := (blk_cell BK122.out 2).trans rfl; have hfz9_0 := blk_frozen BK122.out 0; have hfz9_1 := blk_frozen BK122.out 1; have hfz9_2 := blk_frozen BK122.out 2))
          go_ret
          exact ⟨by first | rfl | exact isEmpty_bne_ _ | (simp [errW_none, errW_some] <;> rfl) | (simp [*, errW_none, errW_some] <;> rfl), by repeat (first | (with_reducible first | exact HB.out | apply below_alloc | apply pw_below_drewN | apply below_drew1 | refine below_set ?_ GE122.out) | exact HB.out)⟩
      · rw [if_neg c4] at H
        have c4b0 : decide ((a0_1.size : Int) ≤ 256) = false := decide_eq_false c4
        have c4b1 : decide (a0_1.size ≤ 256) = false := decide_eq_false (by omega)
        clear c4
        obtain rfl := Option.some.inj H
        go_enter Try.func22, Try.ntmps22
        go_wp2_with (first | ((with_reducible refine gate_dst (N := 1) rfl ?_); (try (refine gate_guard (by rfl) ?_; dsimp only)); refine box_event ?hg (N := 1) ?hd (cs := #[.string a0_0, .string a0_1, .bool a0_2]) (t := 32) ?hr ?_; (case hd => rfl); (case hg => rfl); (case hr => first | (go_simp; done) | (go_simp; rfl)); intro gb122 hg w10 hbox hb; have n0_ := Aside0.mk (below_step (by repeat (first | (with_reducible first | exact HB.out | apply below_alloc | apply pw_below_drewN | apply below_drew1) | exact HB.out)) hb); have n1_ := Aside0.mk (hbox); have n2_ := Aside0.mk ((by rw [hg]; exact (below_size (by repeat (first | (with_reducible first | exact HB.out | apply below_alloc | apply pw_below_drewN | apply below_drew1) | exact HB.out))) : w.heap.size ≤ gb122)); have n3_ := Aside0.mk ((by rw [hg]; exact (below_size (by repeat (first | (with_reducible first | exact HB.out | apply below_alloc | apply pw_below_drewN | apply below_drew1) | exact HB.out))) : w.heap.size ≤ gb122)); clear HB; have HB := n0_; have BK122 := n1_; have GW122 := n2_; have GE122 := n3_; clear n0_ n1_ n2_ n3_; clear hb hbox hg; have hcz11_0 : w10.cell? ⟨gb122, 0, none⟩ = some (.string a0_0) := (blk_cell BK122.out 0).trans rfl; have hcz11_1 : w10.cell? ⟨gb122, 1, none⟩ = some (.string a0_1) := (blk_cell BK122.out 1).trans rfl; have hcz11_2 : w10.cell? ⟨gb122, 2, none⟩ = some (.bool a0_2) := (blk_cell BK122.out 2).trans rfl; have hfz11_0 := blk_frozen BK122.out 0; have hfz11_1 := blk_frozen BK122.out 1; have hfz11_2 := blk_frozen BK122.out 2))
        go_ret
        exact ⟨by first | rfl | exact isEmpty_bne_ _ | (simp [errW_none, errW_some] <;> rfl) | (simp [*, errW_none, errW_some] <;> rfl), by repeat (first | (with_reducible first | exact HB.out | apply below_alloc | apply pw_below_drewN | apply below_drew1 | refine below_set ?_ GE122.out) | exact HB.out)⟩
    · rw [if_neg c3] at H
      have c3b0 : decide ((a0_0.size : Int) ≤ 64) = false := decide_eq_false c3
      have c3b1 : decide (a0_0.size ≤ 64) = false := decide_eq_false (by omega)
      clear c3
      obtain rfl := Option.some.inj H
      go_enter Try.func22, Try.ntmps22
      go_wp2_with (first | ((with_reducible refine gate_dst (N := 1) rfl ?_); (try (refine gate_guard (by rfl) ?_; dsimp only)); refine box_event ?hg (N := 1) ?hd (cs := #[.string a0_0, .string a0_1, .bool a0_2]) (t := 32) ?hr ?_; (case hd => rfl); (case hg => rfl); (case hr => first | (go_simp; done) | (go_simp; rfl)); intro gb122 hg w12 hbox hb; have n0_ := Aside0.mk (below_step (by repeat (first | (with_reducible first | exact HB.out | apply below_alloc | apply pw_below_drewN | apply below_drew1) | exact HB.out)) hb); have n1_ := Aside0.mk (hbox); have n2_ := Aside0.mk ((by rw [hg]; exact (below_size (by repeat (first | (with_reducible first | exact HB.out | apply below_alloc | apply pw_below_drewN | apply below_drew1) | exact HB.out))) : w.heap.size ≤ gb122)); have n3_ := Aside0.mk ((by rw [hg]; exact (below_size (by repeat (first | (with_reducible first | exact HB.out | apply below_alloc | apply pw_below_drewN | apply below_drew1) | exact HB.out))) : w.heap.size ≤ gb122)); clear HB; have HB := n0_; have BK122 := n1_; have GW122 := n2_; have GE122 := n3_; clear n0_ n1_ n2_ n3_; clear hb hbox hg; have hcz13_0 : w12.cell? ⟨gb122, 0, none⟩ = some (.string a0_0) := (blk_cell BK122.out 0).trans rfl; have hcz13_1 : w12.cell? ⟨gb122, 1, none⟩ = some (.string a0_1) := (blk_cell BK122.out 1).trans rfl; have hcz13_2 : w12.cell? ⟨gb122, 2, none⟩ = some (.bool a0_2) := (blk_cell BK122.out 2).trans rfl; have hfz13_0 := blk_frozen BK122.out 0; have hfz13_1 := blk_frozen BK122.out 1; have hfz13_2 := blk_frozen BK122.out 2))
      go_ret
      exact ⟨by first | rfl | exact isEmpty_bne_ _ | (simp [errW_none, errW_some] <;> rfl) | (simp [*, errW_none, errW_some] <;> rfl), by repeat (first | (with_reducible first | exact HB.out | apply below_alloc | apply pw_below_drewN | apply below_drew1 | refine below_set ?_ GE122.out) | exact HB.out)⟩
  · rw [if_neg c2] at H
    have c2b0 : decide (1 ≤ (a0_0.size : Int)) = false := decide_eq_false c2
    have c2b1 : decide (1 ≤ a0_0.size) = false := decide_eq_false (by omega)
    clear c2
    obtain rfl := Option.some.inj H
    go_enter Try.func22, Try.ntmps22
    go_wp2_with (first | ((with_reducible refine gate_dst (N := 1) rfl ?_); (try (refine gate_guard (by rfl) ?_; dsimp only)); refine box_event ?hg (N := 1) ?hd (cs := #[.string a0_0, .string a0_1, .bool a0_2]) (t := 32) ?hr ?_; (case hd => rfl); (case hg => rfl); (case hr => first | (go_simp; done) | (go_simp; rfl)); intro gb122 hg w14 hbox hb; have n0_ := Aside0.mk (below_step (by repeat (first | (with_reducible first | exact HB.out | apply below_alloc | apply pw_below_drewN | apply below_drew1) | exact HB.out)) hb); have n1_ := Aside0.mk (hbox); have n2_ := Aside0.mk ((by rw [hg]; exact (below_size (by repeat (first | (with_reducible first | exact HB.out | apply below_alloc | apply pw_below_drewN | apply below_drew1) | exact HB.out))) : w.heap.size ≤ gb122)); have n3_ := Aside0.mk ((by rw [hg]; exact (below_size (by repeat (first | (with_reducible first | exact HB.out | apply below_alloc | apply pw_below_drewN | apply below_drew1) | exact HB.out))) : w.heap.size ≤ gb122)); clear HB; have HB := n0_; have BK122 := n1_; have GW122 := n2_; have GE122 := n3_; clear n0_ n1_ n2_ n3_; clear hb hbox hg; have hcz15_0 : w14.cell? ⟨gb122, 0, none⟩ = some (.string a0_0) := (blk_cell BK122.out 0).trans rfl; have hcz15_1 : w14.cell? ⟨gb122, 1, none⟩ = some (.string a0_1) := (blk_cell BK122.out 1).trans rfl; have hcz15_2 : w14.cell? ⟨gb122, 2, none⟩ = some (.bool a0_2) := (blk_cell BK122.out 2).trans rfl; have hfz15_0 := blk_frozen BK122.out 0; have hfz15_1 := blk_frozen BK122.out 1; have hfz15_2 := blk_frozen BK122.out 2))
    go_ret
    exact ⟨by first | rfl | exact isEmpty_bne_ _ | (simp [errW_none, errW_some] <;> rfl) | (simp [*, errW_none, errW_some] <;> rfl), by repeat (first | (with_reducible first | exact HB.out | apply below_alloc | apply pw_below_drewN | apply below_drew1 | refine below_set ?_ GE122.out) | exact HB.out)⟩

/-! ### node_two: function 45 -/
def node_two.f (a0 : Int) : Option (ByteArray) := some (strOfNums (([(a0 / 256) % 256, (a0) % 256] : List Int)))
set_option maxHeartbeats 8000000 in
set_option maxRecDepth 100000 in
theorem node_two.calls (a0 : Int) (r : ByteArray) (w : World) (h : node_two.f a0 = some r) :
    Calls Try.prog 45 #[.int .i64 a0] w fun e w' => e = .returned (.string r) ∧ Below w.heap.size w w' := by
  have HB := Aside0.mk (Below.refl w.heap.size w)
  have H : (some (strOfNums (([(a0 / 256) % 256, (a0) % 256] : List Int)))) = some r := h
  clear h
  obtain ⟨y123, hy123⟩ : ∃ y_ : List Int, y_ = (([(a0 / 256) % 256, (a0) % 256] : List Int)) := ⟨_, rfl⟩
  replace H : (some (strOfNums y123)) = some r := by first | (rw [hy123]; with_reducible exact H) | (have H2_ := (Option.bind_some _ _).symm.trans H; rw [hy123]; with_reducible exact H2_) | (have H2_ := (Option.bind_some _ _).symm.trans H; with_reducible exact H2_) | with_reducible exact H | (rw [hy123]; exact H) | exact H
  have Ny123 := Aside0.mk hy123
  clear hy123
  obtain rfl := Option.some.inj H
  go_enter Try.func45, Try.ntmps45
  go_wp2_with (first | ((with_reducible refine gate_dst (N := 8) rfl ?_); refine Kd.R_lit (Kd.int .u8) _ 5 ?hg (N := 8) ?hd (xs := ([(a0 / 256) % 256, (a0) % 256] : List Int)) (inner := [.int .u8 ((a0 / 256) % 256), .int .u8 ((a0) % 256)]) (ok := fun _ => True) (okp := fun _ => True) ?hr ?hp (fun _ hk => hk) trivial (Below.refl _ _) (Nat.le_refl _) (by simp) ?_; (case hd => rfl); (case hg => rfl); (case hr => first | (go_simp; done) | (go_simp; rfl)); (case hp => exact (Reps.one (show Kd.M (Kd.int .u8) _ _ _ ((a0 / 256) % 256) [.int .u8 ((a0 / 256) % 256)] from rfl) (Reps.one (show Kd.M (Kd.int .u8) _ _ _ ((a0) % 256) [.int .u8 ((a0) % 256)] from rfl) (Reps.none _ _)))); intro v124 w2 ho3 hb hg_ hnew_; clear hg_ hnew_; (first | rw [← Ny123.out] at ho3 | (simp only [Int.reduceToNat] at ho3; rw [← Ny123.out] at ho3)); have n0_ := Aside0.mk (Kd.R_lower ho3 (below_size (by repeat (first | (with_reducible first | exact HB.out | apply below_alloc | apply pw_below_drewN | apply below_drew1) | exact HB.out)))); have n1_ := Aside0.mk (below_step (by repeat (first | (with_reducible first | exact HB.out | apply below_alloc | apply pw_below_drewN | apply below_drew1) | exact HB.out)) hb); clear HB; have HO125 := n0_; have HB := n1_; clear n0_ n1_; clear hb ho3; have hcv4 := own_string (P := Try.prog) Try.underlying34 Try.underlying5 Try.underlying9 (Kd.own_of_R HO125.out)))
  go_ret
  exact ⟨by first | rfl | exact isEmpty_bne_ _ | (simp [errW_none, errW_some] <;> rfl) | (simp [*, errW_none, errW_some] <;> rfl), by repeat (first | (with_reducible first | exact HB.out | apply below_alloc | apply pw_below_drewN | apply below_drew1) | exact HB.out)⟩

/-! ### node_key: function 44 -/
def node_key.f (a0 : Int) (a1 : Int) : Option (ByteArray) := (node_two.f a0).bind fun t126 => ((some (([(a1) % 256] : List Int) : List Int)).bind fun y127 => (if t126.size + (strOfNums y127).size ≤ 9223372036854775807 then (some (t126 ++ (strOfNums y127))) else (none)))
def node_key.T1 : Bool × List (List Nat × List Nat) := (true, [([], []), ([0], [0]), ([], []), ([2], [2]), ([3], [3]), ([4], [4]), ([1, 5], [1, 5]), ([6, 1, 0, 1, 2, 3, 4, 5, 6], [6])])
def node_key.B1 : List Nat := [0, 1, 0, 4, 12, 28, 63, 127]
theorem node_key.tab1 : rtab .any (opsOf Try.f44 1) = node_key.T1 := by kernel_rfl
theorem node_key.bits1 : waitsOk node_key.T1.2 node_key.B1 = true := by kernel_rfl
set_option maxHeartbeats 8000000 in
set_option maxRecDepth 100000 in
theorem node_key.calls (a0 : Int) (a1 : Int) (r : ByteArray) (w : World) (h : node_key.f a0 a1 = some r) :
    Calls Try.prog 44 #[.int .i64 a0, .int .i64 a1] w fun e w' => e = .returned (.string r) ∧ Below w.heap.size w w' := by
  have HB := Aside0.mk (Below.refl w.heap.size w)
  have H : ((node_two.f a0).bind fun t126 => ((some (([(a1) % 256] : List Int) : List Int)).bind fun y127 => (if t126.size + (strOfNums y127).size ≤ 9223372036854775807 then (some (t126 ++ (strOfNums y127))) else (none)))) = some r := h
  clear h
  replace H := Option.bind_eq_some_iff.mp H
  obtain ⟨t126, A30, H⟩ := H
  replace H : ((some (([(a1) % 256] : List Int) : List Int)).bind fun y127 => (if t126.size + (strOfNums y127).size ≤ 9223372036854775807 then (some (t126 ++ (strOfNums y127))) else (none))) = some r := H
  have A3 := Aside0.mk A30
  clear A30
  obtain ⟨y127, hy127⟩ : ∃ y_ : List Int, y_ = (([(a1) % 256] : List Int)) := ⟨_, rfl⟩
  replace H : (if t126.size + (strOfNums y127).size ≤ 9223372036854775807 then (some (t126 ++ (strOfNums y127))) else (none)) = some r := by first | (rw [hy127]; with_reducible exact H) | (have H2_ := (Option.bind_some _ _).symm.trans H; rw [hy127]; with_reducible exact H2_) | (have H2_ := (Option.bind_some _ _).symm.trans H; with_reducible exact H2_) | with_reducible exact H | (rw [hy127]; exact H) | exact H
  have Ny127 := Aside0.mk hy127
  clear hy127
  by_cases c4 : t126.size + (strOfNums y127).size ≤ 9223372036854775807
  · rw [if_pos c4] at H
    have c4b0 := eq_true c4
    have c4b1 : decide (t126.size + (strOfNums y127).size ≤ 9223372036854775807) = true := decide_eq_true c4
    try have c4b2 : (9223372036854775807 < t126.size + (strOfNums y127).size) = False := eq_false (Nat.not_lt.2 c4)
    try (have c4s := c4; simp [] at c4s)
    obtain rfl := Option.some.inj H
    go_enter Try.func44, Try.ntmps44
    try go_wp2
    have n0_ := Aside0.mk (below_drew1 HB.out)
    clear HB
    have HB := n0_
    clear n0_
    refine start_ (n := 8) (S := fun w' => True) (ds := []) #[false, false, false, false, false, false, false, false] (by kernel_rfl) rfl rfl trivial (fun hHeld => ?_); refine with_tabW node_key.tab1 node_key.bits1 (fun HT_ HW_ => ?_)
    generalize w.drew = w5 at HB hHeld ⊢
    refine pure_ (i := 0) (N := some 5) (v := ?_) (a' := ?_) #[true, false, false, false, false, false, false, false] rfl rfl (any_of HT_.out (by kernel_rfl)) (fun _ _ _ h => h) (Or.inl ⟨by rfl, ?_⟩) ?_ ?_
    rotate_left
    · intro w'
      go_simp
      with_reducible rfl
    rotate_left
    · simp only [Act.put, List.setIfInBounds_toArray, List.set_cons_zero, List.set_cons_succ, i64_w, i32_w]
      rfl
    refine pure_ (i := 2) (N := some 7) (v := ?_) (a' := ?_) #[true, false, true, false, false, false, false, false] rfl rfl (any_of HT_.out (by kernel_rfl)) (fun _ _ _ h => h) (Or.inl ⟨by rfl, ?_⟩) ?_ ?_
    rotate_left
    · intro w'
      go_simp
      with_reducible rfl
    rotate_left
    · simp only [Act.put, List.setIfInBounds_toArray, List.set_cons_zero, List.set_cons_succ, i64_w, i32_w]
      rfl
    refine pure_ (i := 3) (N := some 8) (v := ?_) (a' := ?_) #[true, false, true, true, false, false, false, false] rfl rfl (any_of HT_.out (by kernel_rfl)) (fun _ _ _ h => h) (Or.inl ⟨by rfl, ?_⟩) ?_ ?_
    rotate_left
    · intro w'
      go_simp
      with_reducible rfl
    rotate_left
    · simp only [Act.put, List.setIfInBounds_toArray, List.set_cons_zero, List.set_cons_succ, i64_w, i32_w]
      rfl
    refine join_ (σ := Value) 2 #[true, true, true, true, true, true, false, false] (fun s_ => [(6, .string t126), (9, s_), (10, .string (strOfNums y127))]) (fun s_ w' => (Kd.R (Kd.int .u8) 5 w' w.heap.size (fun _ => True) s_ y127) ∧ (Below w.heap.size w w')) ?_ ?_
    rotate_left
    · intro hCont
      refine two_ (i := 1) (j := 4) (Ni := some 6) (Nj := some 9) #[true, true, true, true, false, false, false, false] #[true, false, true, true, true, false, false, false] rfl rfl rfl rfl (two_of HT_.out (by kernel_rfl)) (by decide) (by decide) (fun K hK => ?_) (fun K hK => ?_)
      · skip
        refine goes_ Try.func45 (by kernel_rfl) rfl #[.int .i64 a0] (by rfl) rfl rfl (by (try simp only [List.map_toArray, List.map_cons, List.map_nil]); first | done | rfl | (simp only [List.length_drop, List.length_take]; rfl)) ?_
        with_reducible refine (node_two.calls a0 t126 _ A3.out).mono ?_
        rintro e w6 ⟨rfl, hb⟩
        refine ⟨_, rfl, ?_⟩
        have n0_ := Aside0.mk (below_step (by repeat (first | (with_reducible first | exact HB.out | apply below_alloc | apply pw_below_drewN | apply below_drew1) | exact HB.out)) hb)
        clear HB
        have HB := n0_
        clear n0_
        (try clear hb)
        (try clear hb2)
        (try clear hk)
        (try clear hi)
        refine hK.out _ _ trivial (fun hHeld => ?_)
        clear hK K
        refine norm_ (a' := ?_) ?_ ?_
        rotate_left
        · show Act.put _ (some 6) _ = _
          simp only [Act.put, List.setIfInBounds_toArray, List.set_cons_zero, List.set_cons_succ, i64_w, i32_w]
          rfl
        refine one_ (i := 4) (N := some 9) #[true, true, true, true, true, false, false, false] rfl rfl (one_of HT_.out (by kernel_rfl)) (by decide) (fun K hK => ?_)
        refine Kd.R_lit_step (Kd.int .u8) _ 5 ?hg (N := 9) ?hd (xs := ([(a1) % 256] : List Int)) (inner := [.int .u8 ((a1) % 256)]) (ok := fun _ => True) (okp := fun _ => True) ?hr ?hp (fun _ hk => hk) trivial (Below.refl _ _) (Nat.le_refl _) (by simp) ?_; (case hd => rfl); (case hg => rfl); (case hr => first | (go_simp; done) | (go_simp; rfl)); (case hp => exact (Reps.one (show Kd.M (Kd.int .u8) _ _ _ ((a1) % 256) [.int .u8 ((a1) % 256)] from rfl) (Reps.none _ _)))
        intro v128 w7 ho8 hb hg_ hnew_
        clear hg_ hnew_
        (first | rw [← Ny127.out] at ho8 | (simp only [Int.reduceToNat] at ho8; rw [← Ny127.out] at ho8))
        have n0_ := Aside0.mk (Kd.R_lower ho8 (below_size (by repeat (first | (with_reducible first | exact HB.out | apply below_alloc | apply pw_below_drewN | apply below_drew1) | exact HB.out))))
        have n1_ := Aside0.mk (below_step (by repeat (first | (with_reducible first | exact HB.out | apply below_alloc | apply pw_below_drewN | apply below_drew1) | exact HB.out)) hb)
        clear HB
        have HO129 := n0_
        have HB := n1_
        clear n0_ n1_
        clear hb ho8
        refine hK.out _ _ trivial (fun hHeld => ?_)
        clear hK K
        refine norm_ (a' := ?_) ?_ ?_
        rotate_left
        · show Act.put _ (some 9) _ = _
          simp only [Act.put, List.setIfInBounds_toArray, List.set_cons_zero, List.set_cons_succ, i64_w, i32_w]
          rfl
        refine one_ (i := 5) (N := some 10) #[true, true, true, true, true, true, false, false] rfl rfl (one_of HT_.out (by kernel_rfl)) (by decide) (fun K hK => ?_)
        have hcv9 := own_string (P := Try.prog) Try.underlying34 Try.underlying5 Try.underlying9 (Kd.own_of_R HO129.out)
        refine value_ (w1 := ?_) (v := ?_) (by rfl) rfl ?_ ?_
        rotate_left 2
        · go_simp
          constructor
          · rfl
          · rfl
        clear hcv9
        refine hK.out _ _ trivial (fun hHeld => ?_)
        clear hK K
        refine norm_ (a' := ?_) ?_ ?_
        rotate_left
        · show Act.put _ (some 10) _ = _
          simp only [Act.put, List.setIfInBounds_toArray, List.set_cons_zero, List.set_cons_succ, i64_w, i32_w]
          rfl
        exact norm_ (by simp only [putAll, Act.put, List.setIfInBounds_toArray, List.set_cons_zero, List.set_cons_succ]) (hCont (v128) _ ⟨(by (with_reducible repeat (first | apply Kd.R_alloc | apply Kd.R_drewN | apply Kd.R_drew)); exact HO129.out), (by repeat (first | (with_reducible first | exact HB.out | apply below_alloc | apply pw_below_drewN | apply below_drew1) | exact HB.out))⟩)
      · skip
        refine Kd.R_lit_step (Kd.int .u8) _ 5 ?hg (N := 9) ?hd (xs := ([(a1) % 256] : List Int)) (inner := [.int .u8 ((a1) % 256)]) (ok := fun _ => True) (okp := fun _ => True) ?hr ?hp (fun _ hk => hk) trivial (Below.refl _ _) (Nat.le_refl _) (by simp) ?_; (case hd => rfl); (case hg => rfl); (case hr => first | (go_simp; done) | (go_simp; rfl)); (case hp => exact (Reps.one (show Kd.M (Kd.int .u8) _ _ _ ((a1) % 256) [.int .u8 ((a1) % 256)] from rfl) (Reps.none _ _)))
        intro v128 w6 ho7 hb hg_ hnew_
        clear hg_ hnew_
        (first | rw [← Ny127.out] at ho7 | (simp only [Int.reduceToNat] at ho7; rw [← Ny127.out] at ho7))
        have n0_ := Aside0.mk (Kd.R_lower ho7 (below_size (by repeat (first | (with_reducible first | exact HB.out | apply below_alloc | apply pw_below_drewN | apply below_drew1) | exact HB.out))))
        have n1_ := Aside0.mk (below_step (by repeat (first | (with_reducible first | exact HB.out | apply below_alloc | apply pw_below_drewN | apply below_drew1) | exact HB.out)) hb)
        clear HB
        have HO129 := n0_
        have HB := n1_
        clear n0_ n1_
        clear hb ho7
        refine hK.out _ _ trivial (fun hHeld => ?_)
        clear hK K
        refine norm_ (a' := ?_) ?_ ?_
        rotate_left
        · show Act.put _ (some 9) _ = _
          simp only [Act.put, List.setIfInBounds_toArray, List.set_cons_zero, List.set_cons_succ, i64_w, i32_w]
          rfl
        refine two_ (i := 1) (j := 5) (Ni := some 6) (Nj := some 10) #[true, true, true, true, true, false, false, false] #[true, false, true, true, true, true, false, false] rfl rfl rfl rfl (two_of HT_.out (by kernel_rfl)) (by decide) (by decide) (fun K hK => ?_) (fun K hK => ?_)
        · skip
          refine goes_ Try.func45 (by kernel_rfl) rfl #[.int .i64 a0] (by rfl) rfl rfl (by (try simp only [List.map_toArray, List.map_cons, List.map_nil]); first | done | rfl | (simp only [List.length_drop, List.length_take]; rfl)) ?_
          with_reducible refine (node_two.calls a0 t126 _ A3.out).mono ?_
          rintro e w8 ⟨rfl, hb⟩
          refine ⟨_, rfl, ?_⟩
          have n0_ := Aside0.mk (Kd.R_below (by (with_reducible repeat (first | apply Kd.R_alloc | apply Kd.R_drewN | apply Kd.R_drew)); exact HO129.out) hb)
          have n1_ := Aside0.mk (below_step (by repeat (first | (with_reducible first | exact HB.out | apply below_alloc | apply pw_below_drewN | apply below_drew1) | exact HB.out)) hb)
          clear HO129
          clear HB
          have HO129 := n0_
          have HB := n1_
          clear n0_ n1_
          (try clear hb)
          (try clear hb2)
          (try clear hk)
          (try clear hi)
          refine hK.out _ _ trivial (fun hHeld => ?_)
          clear hK K
          refine norm_ (a' := ?_) ?_ ?_
          rotate_left
          · show Act.put _ (some 6) _ = _
            simp only [Act.put, List.setIfInBounds_toArray, List.set_cons_zero, List.set_cons_succ, i64_w, i32_w]
            rfl
          refine one_ (i := 5) (N := some 10) #[true, true, true, true, true, true, false, false] rfl rfl (one_of HT_.out (by kernel_rfl)) (by decide) (fun K hK => ?_)
          have hcv9 := own_string (P := Try.prog) Try.underlying34 Try.underlying5 Try.underlying9 (Kd.own_of_R HO129.out)
          refine value_ (w1 := ?_) (v := ?_) (by rfl) rfl ?_ ?_
          rotate_left 2
          · go_simp
            constructor
            · rfl
            · rfl
          clear hcv9
          refine hK.out _ _ trivial (fun hHeld => ?_)
          clear hK K
          refine norm_ (a' := ?_) ?_ ?_
          rotate_left
          · show Act.put _ (some 10) _ = _
            simp only [Act.put, List.setIfInBounds_toArray, List.set_cons_zero, List.set_cons_succ, i64_w, i32_w]
            rfl
          exact norm_ (by simp only [putAll, Act.put, List.setIfInBounds_toArray, List.set_cons_zero, List.set_cons_succ]) (hCont (v128) _ ⟨(by (with_reducible repeat (first | apply Kd.R_alloc | apply Kd.R_drewN | apply Kd.R_drew)); exact HO129.out), (by repeat (first | (with_reducible first | exact HB.out | apply below_alloc | apply pw_below_drewN | apply below_drew1) | exact HB.out))⟩)
        · skip
          have hcv8 := own_string (P := Try.prog) Try.underlying34 Try.underlying5 Try.underlying9 (Kd.own_of_R HO129.out)
          refine value_ (w1 := ?_) (v := ?_) (by rfl) rfl ?_ ?_
          rotate_left 2
          · go_simp
            constructor
            · rfl
            · rfl
          clear hcv8
          refine hK.out _ _ trivial (fun hHeld => ?_)
          clear hK K
          refine norm_ (a' := ?_) ?_ ?_
          rotate_left
          · show Act.put _ (some 10) _ = _
            simp only [Act.put, List.setIfInBounds_toArray, List.set_cons_zero, List.set_cons_succ, i64_w, i32_w]
            rfl
          refine one_ (i := 1) (N := some 6) #[true, true, true, true, true, true, false, false] rfl rfl (one_of HT_.out (by kernel_rfl)) (by decide) (fun K hK => ?_)
          refine goes_ Try.func45 (by kernel_rfl) rfl #[.int .i64 a0] (by rfl) rfl rfl (by (try simp only [List.map_toArray, List.map_cons, List.map_nil]); first | done | rfl | (simp only [List.length_drop, List.length_take]; rfl)) ?_
          with_reducible refine (node_two.calls a0 t126 _ A3.out).mono ?_
          rintro e w9 ⟨rfl, hb⟩
          refine ⟨_, rfl, ?_⟩
          have n0_ := Aside0.mk (Kd.R_below (by (with_reducible repeat (first | apply Kd.R_alloc | apply Kd.R_drewN | apply Kd.R_drew)); exact HO129.out) hb)
          have n1_ := Aside0.mk (below_step (by repeat (first | (with_reducible first | exact HB.out | apply below_alloc | apply pw_below_drewN | apply below_drew1) | exact HB.out)) hb)
          clear HO129
          clear HB
          have HO129 := n0_
          have HB := n1_
          clear n0_ n1_
          (try clear hb)
          (try clear hb2)
          (try clear hk)
          (try clear hi)
          refine hK.out _ _ trivial (fun hHeld => ?_)
          clear hK K
          refine norm_ (a' := ?_) ?_ ?_
          rotate_left
          · show Act.put _ (some 6) _ = _
            simp only [Act.put, List.setIfInBounds_toArray, List.set_cons_zero, List.set_cons_succ, i64_w, i32_w]
            rfl
          exact norm_ (by simp only [putAll, Act.put, List.setIfInBounds_toArray, List.set_cons_zero, List.set_cons_succ]) (hCont (v128) _ ⟨(by (with_reducible repeat (first | apply Kd.R_alloc | apply Kd.R_drewN | apply Kd.R_drew)); exact HO129.out), (by repeat (first | (with_reducible first | exact HB.out | apply below_alloc | apply pw_below_drewN | apply below_drew1) | exact HB.out))⟩)
    rintro v128 w10 ⟨h0_, h1_⟩
    have n0_ : Aside0 (Kd.R (Kd.int .u8) 5 w10 w.heap.size (fun _ => True) v128 y127) := ⟨h0_⟩
    have n1_ : Aside0 (Below w.heap.size w w10) := ⟨h1_⟩
    clear HB
    clear h0_ h1_
    have HO129 := n0_
    have HB := n1_
    clear n0_ n1_
    have hHeld := trivial
    refine norm_ (a' := ?_) ?_ ?_
    rotate_left
    · simp only [putAll, Act.put, List.setIfInBounds_toArray, List.set_cons_zero, List.set_cons_succ]
      rfl
    refine pure_ (i := 6) (N := some 11) (v := ?_) (a' := ?_) #[true, true, true, true, true, true, true, false] rfl rfl (any_of HT_.out (by kernel_rfl)) (fun _ _ _ h => h) (Or.inl ⟨by rfl, ?_⟩) ?_ ?_
    rotate_left
    · intro w'
      go_simp
      with_reducible rfl
    rotate_left
    · simp only [Act.put, List.setIfInBounds_toArray, List.set_cons_zero, List.set_cons_succ, i64_w, i32_w]
      rfl
    refine pure_ (i := 7) (N := some 4) (v := ?_) (a' := ?_) #[true, true, true, true, true, true, true, true] rfl rfl (any_of HT_.out (by kernel_rfl)) (fun _ _ _ h => h) (Or.inl ⟨by rfl, ?_⟩) ?_ ?_
    rotate_left
    · intro w'
      go_simp
      with_reducible rfl
    rotate_left
    · simp only [Act.put, List.setIfInBounds_toArray, List.set_cons_zero, List.set_cons_succ, i64_w, i32_w]
      rfl
    refine done_ (done_of HT_.out (by kernel_rfl)) ?_
    try go_wp2
    go_ret
    exact ⟨by first | rfl | exact isEmpty_bne_ _ | (simp [errW_none, errW_some] <;> rfl) | (simp [*, errW_none, errW_some] <;> rfl), by repeat (first | (with_reducible first | exact HB.out | apply below_alloc | apply pw_below_drewN | apply below_drew1) | exact HB.out)⟩
  · rw [if_neg c4] at H
    exact absurd H (by simp)

/-! ### node_InodeKey: function 16 -/
def node_InodeKey.f (a0 : Int) : Option (ByteArray) := (node_key.f a0 1).bind fun t130 => (some t130)
set_option maxHeartbeats 8000000 in
set_option maxRecDepth 100000 in
theorem node_InodeKey.calls (a0 : Int) (r : ByteArray) (w : World) (h : node_InodeKey.f a0 = some r) :
    Calls Try.prog 16 #[.int .i64 a0] w fun e w' => e = .returned (.string r) ∧ Below w.heap.size w w' := by
  have HB := Aside0.mk (Below.refl w.heap.size w)
  have H : ((node_key.f a0 1).bind fun t130 => (some t130)) = some r := h
  clear h
  replace H := Option.bind_eq_some_iff.mp H
  obtain ⟨t130, A20, H⟩ := H
  replace H : (some t130) = some r := H
  have A2 := Aside0.mk A20
  clear A20
  obtain rfl := Option.some.inj H
  go_enter Try.func16, Try.ntmps16
  go_wp2_with (first | ((with_reducible refine gate_callee (f := 44) rfl ?_); refine goesL_ (some 4) rfl rfl Try.func44 (by kernel_rfl) rfl #[.int .i64 a0, .int .i64 1] rfl (by (try simp only [List.map_toArray, List.map_cons, List.map_nil]); first | done | rfl | (simp only [List.length_drop, List.length_take]; rfl)) ?_; (with_reducible refine (node_key.calls a0 1 t130 _ A2.out).mono ?_); rintro e w3 ⟨rfl, hb⟩; refine ⟨_, rfl, ?_⟩; have n0_ := Aside0.mk (below_step (by repeat (first | (with_reducible first | exact HB.out | apply below_alloc | apply pw_below_drewN | apply below_drew1) | exact HB.out)) hb); clear HB; have HB := n0_; clear n0_; (try clear hb); (try clear hb2); (try clear hk); (try clear hi)))
  go_ret
  exact ⟨by first | rfl | exact isEmpty_bne_ _ | (simp [errW_none, errW_some] <;> rfl) | (simp [*, errW_none, errW_some] <;> rfl), by repeat (first | (with_reducible first | exact HB.out | apply below_alloc | apply pw_below_drewN | apply below_drew1) | exact HB.out)⟩

/-! ### node_EntryKey: function 12 -/
def node_EntryKey.f (a0 : Int) (a1 : ByteArray) : Option (ByteArray) := (node_key.f a0 2).bind fun t131 => (if t131.size + a1.size ≤ 9223372036854775807 then (some (t131 ++ a1)) else (none))
set_option maxHeartbeats 8000000 in
set_option maxRecDepth 100000 in
theorem node_EntryKey.calls (a0 : Int) (a1 : ByteArray) (r : ByteArray) (w : World) (h : node_EntryKey.f a0 a1 = some r) :
    Calls Try.prog 12 #[.int .i64 a0, .string a1] w fun e w' => e = .returned (.string r) ∧ Below w.heap.size w w' := by
  have HB := Aside0.mk (Below.refl w.heap.size w)
  have H : ((node_key.f a0 2).bind fun t131 => (if t131.size + a1.size ≤ 9223372036854775807 then (some (t131 ++ a1)) else (none))) = some r := h
  clear h
  replace H := Option.bind_eq_some_iff.mp H
  obtain ⟨t131, A30, H⟩ := H
  replace H : (if t131.size + a1.size ≤ 9223372036854775807 then (some (t131 ++ a1)) else (none)) = some r := H
  have A3 := Aside0.mk A30
  clear A30
  by_cases c4 : t131.size + a1.size ≤ 9223372036854775807
  · rw [if_pos c4] at H
    have c4b0 := eq_true c4
    have c4b1 : decide (t131.size + a1.size ≤ 9223372036854775807) = true := decide_eq_true c4
    try have c4b2 : (9223372036854775807 < t131.size + a1.size) = False := eq_false (Nat.not_lt.2 c4)
    try (have c4s := c4; simp [] at c4s)
    obtain rfl := Option.some.inj H
    go_enter Try.func12, Try.ntmps12
    go_wp2_with (first | ((with_reducible refine gate_callee (f := 44) rfl ?_); refine goesL_ (some 6) rfl rfl Try.func44 (by kernel_rfl) rfl #[.int .i64 a0, .int .i64 2] rfl (by (try simp only [List.map_toArray, List.map_cons, List.map_nil]); first | done | rfl | (simp only [List.length_drop, List.length_take]; rfl)) ?_; (with_reducible refine (node_key.calls a0 2 t131 _ A3.out).mono ?_); rintro e w5 ⟨rfl, hb⟩; refine ⟨_, rfl, ?_⟩; have n0_ := Aside0.mk (below_step (by repeat (first | (with_reducible first | exact HB.out | apply below_alloc | apply pw_below_drewN | apply below_drew1) | exact HB.out)) hb); clear HB; have HB := n0_; clear n0_; (try clear hb); (try clear hb2); (try clear hk); (try clear hi)))
    go_ret
    exact ⟨by first | rfl | exact isEmpty_bne_ _ | (simp [errW_none, errW_some] <;> rfl) | (simp [*, errW_none, errW_some] <;> rfl), by repeat (first | (with_reducible first | exact HB.out | apply below_alloc | apply pw_below_drewN | apply below_drew1) | exact HB.out)⟩
  · rw [if_neg c4] at H
    exact absurd H (by simp)

/-! ### node_goodIno: function 56 -/
def node_goodIno.f (a0 : Int) : Option (Bool) := if a0 ≥ 1 then (some (decide (a0 ≤ 4096))) else (some false)
set_option maxHeartbeats 8000000 in
set_option maxRecDepth 100000 in
theorem node_goodIno.calls (a0 : Int) (r : Bool) (w : World) (h : node_goodIno.f a0 = some r) :
    Calls Try.prog 56 #[.int .i64 a0] w fun e w' => e = .returned (.bool r) ∧ Drawn0 w w' := by
  have H : (if a0 ≥ 1 then (some (decide (a0 ≤ 4096))) else (some false)) = some r := h
  clear h
  by_cases c2 : a0 ≥ 1
  · rw [if_pos c2] at H
    have c2b0 : decide (1 ≤ a0) = true := decide_eq_true c2
    clear c2
    obtain rfl := Option.some.inj H
    go_enter Try.func56, Try.ntmps56
    go_wp2
    go_ret
    exact ⟨by first | rfl | exact isEmpty_bne_ _ | (simp; done) | (simp [*]; done) | (simp [wrap64]; done), by repeat (first | exact Drawn0.refl _ | apply Drawn0.step)⟩
  · rw [if_neg c2] at H
    have c2b0 : decide (1 ≤ a0) = false := decide_eq_false c2
    clear c2
    obtain rfl := Option.some.inj H
    go_enter Try.func56, Try.ntmps56
    go_wp2
    go_ret
    exact ⟨by first | rfl | exact isEmpty_bne_ _ | (simp; done) | (simp [*]; done) | (simp [wrap64]; done), by repeat (first | exact Drawn0.refl _ | apply Drawn0.step)⟩

/-! ### node_goodKind: function 64 -/
def node_goodKind.f (a0 : Int) : Option (Bool) := if a0 ≥ 1 then (some (decide (a0 ≤ 3))) else (some false)
set_option maxHeartbeats 8000000 in
set_option maxRecDepth 100000 in
theorem node_goodKind.calls (a0 : Int) (r : Bool) (w : World) (h : node_goodKind.f a0 = some r) :
    Calls Try.prog 64 #[.int .i64 a0] w fun e w' => e = .returned (.bool r) ∧ Drawn0 w w' := by
  have H : (if a0 ≥ 1 then (some (decide (a0 ≤ 3))) else (some false)) = some r := h
  clear h
  by_cases c2 : a0 ≥ 1
  · rw [if_pos c2] at H
    have c2b0 : decide (1 ≤ a0) = true := decide_eq_true c2
    clear c2
    obtain rfl := Option.some.inj H
    go_enter Try.func64, Try.ntmps64
    go_wp2
    go_ret
    exact ⟨by first | rfl | exact isEmpty_bne_ _ | (simp; done) | (simp [*]; done) | (simp [wrap64]; done), by repeat (first | exact Drawn0.refl _ | apply Drawn0.step)⟩
  · rw [if_neg c2] at H
    have c2b0 : decide (1 ≤ a0) = false := decide_eq_false c2
    clear c2
    obtain rfl := Option.some.inj H
    go_enter Try.func64, Try.ntmps64
    go_wp2
    go_ret
    exact ⟨by first | rfl | exact isEmpty_bne_ _ | (simp; done) | (simp [*]; done) | (simp [wrap64]; done), by repeat (first | exact Drawn0.refl _ | apply Drawn0.step)⟩

/-! ### node_OrphanKey: function 17 -/
def node_OrphanKey.f (a0 : Int) : Option (ByteArray) := (node_two.f a0).bind fun t132 => (if 3 + t132.size ≤ 9223372036854775807 then (some ((⟨#[0, 0, 4]⟩ : ByteArray) ++ t132)) else (none))
set_option maxHeartbeats 8000000 in
set_option maxRecDepth 100000 in
theorem node_OrphanKey.calls (a0 : Int) (r : ByteArray) (w : World) (h : node_OrphanKey.f a0 = some r) :
    Calls Try.prog 17 #[.int .i64 a0] w fun e w' => e = .returned (.string r) ∧ Below w.heap.size w w' := by
  have HB := Aside0.mk (Below.refl w.heap.size w)
  have H : ((node_two.f a0).bind fun t132 => (if 3 + t132.size ≤ 9223372036854775807 then (some ((⟨#[0, 0, 4]⟩ : ByteArray) ++ t132)) else (none))) = some r := h
  clear h
  replace H := Option.bind_eq_some_iff.mp H
  obtain ⟨t132, A20, H⟩ := H
  replace H : (if 3 + t132.size ≤ 9223372036854775807 then (some ((⟨#[0, 0, 4]⟩ : ByteArray) ++ t132)) else (none)) = some r := H
  have A2 := Aside0.mk A20
  clear A20
  by_cases c3 : 3 + t132.size ≤ 9223372036854775807
  · rw [if_pos c3] at H
    have c3b0 := eq_true c3
    have c3b1 : decide (3 + t132.size ≤ 9223372036854775807) = true := decide_eq_true c3
    try have c3b2 : (9223372036854775807 < 3 + t132.size) = False := eq_false (Nat.not_lt.2 c3)
    try (have c3s := c3; simp [] at c3s)
    obtain rfl := Option.some.inj H
    go_enter Try.func17, Try.ntmps17
    go_wp2_with (first | ((with_reducible refine gate_callee (f := 45) rfl ?_); refine goesL_ (some 4) rfl rfl Try.func45 (by kernel_rfl) rfl #[.int .i64 a0] rfl (by (try simp only [List.map_toArray, List.map_cons, List.map_nil]); first | done | rfl | (simp only [List.length_drop, List.length_take]; rfl)) ?_; (with_reducible refine (node_two.calls a0 t132 _ A2.out).mono ?_); rintro e w4 ⟨rfl, hb⟩; refine ⟨_, rfl, ?_⟩; have n0_ := Aside0.mk (below_step (by repeat (first | (with_reducible first | exact HB.out | apply below_alloc | apply pw_below_drewN | apply below_drew1) | exact HB.out)) hb); clear HB; have HB := n0_; clear n0_; (try clear hb); (try clear hb2); (try clear hk); (try clear hi)))
    go_ret
    exact ⟨by first | rfl | exact isEmpty_bne_ _ | (simp [errW_none, errW_some] <;> rfl) | (simp [*, errW_none, errW_some] <;> rfl), by repeat (first | (with_reducible first | exact HB.out | apply below_alloc | apply pw_below_drewN | apply below_drew1) | exact HB.out)⟩
  · rw [if_neg c3] at H
    exact absurd H (by simp)

/-! ### node_BlockKey: function 13 -/
def node_BlockKey.f (a0 : Int) (a1 : Int) : Option (ByteArray) := (node_key.f a0 3).bind fun t133 => ((node_two.f a1).bind fun t134 => (if t133.size + t134.size ≤ 9223372036854775807 then (some (t133 ++ t134)) else (none)))
set_option maxHeartbeats 8000000 in
set_option maxRecDepth 100000 in
theorem node_BlockKey.calls (a0 : Int) (a1 : Int) (r : ByteArray) (w : World) (h : node_BlockKey.f a0 a1 = some r) :
    Calls Try.prog 13 #[.int .i64 a0, .int .i64 a1] w fun e w' => e = .returned (.string r) ∧ Below w.heap.size w w' := by
  have HB := Aside0.mk (Below.refl w.heap.size w)
  have H : ((node_key.f a0 3).bind fun t133 => ((node_two.f a1).bind fun t134 => (if t133.size + t134.size ≤ 9223372036854775807 then (some (t133 ++ t134)) else (none)))) = some r := h
  clear h
  replace H := Option.bind_eq_some_iff.mp H
  obtain ⟨t133, A30, H⟩ := H
  replace H : ((node_two.f a1).bind fun t134 => (if t133.size + t134.size ≤ 9223372036854775807 then (some (t133 ++ t134)) else (none))) = some r := H
  have A3 := Aside0.mk A30
  clear A30
  replace H := Option.bind_eq_some_iff.mp H
  obtain ⟨t134, A40, H⟩ := H
  replace H : (if t133.size + t134.size ≤ 9223372036854775807 then (some (t133 ++ t134)) else (none)) = some r := H
  have A4 := Aside0.mk A40
  clear A40
  by_cases c5 : t133.size + t134.size ≤ 9223372036854775807
  · rw [if_pos c5] at H
    have c5b0 := eq_true c5
    have c5b1 : decide (t133.size + t134.size ≤ 9223372036854775807) = true := decide_eq_true c5
    try have c5b2 : (9223372036854775807 < t133.size + t134.size) = False := eq_false (Nat.not_lt.2 c5)
    try (have c5s := c5; simp [] at c5s)
    obtain rfl := Option.some.inj H
    go_enter Try.func13, Try.ntmps13
    go_wp2_with (first | ((with_reducible refine gate_callee (f := 44) rfl ?_); refine goesL_ (some 6) rfl rfl Try.func44 (by kernel_rfl) rfl #[.int .i64 a0, .int .i64 3] rfl (by (try simp only [List.map_toArray, List.map_cons, List.map_nil]); first | done | rfl | (simp only [List.length_drop, List.length_take]; rfl)) ?_; (with_reducible refine (node_key.calls a0 3 t133 _ A3.out).mono ?_); rintro e w6 ⟨rfl, hb⟩; refine ⟨_, rfl, ?_⟩; have n0_ := Aside0.mk (below_step (by repeat (first | (with_reducible first | exact HB.out | apply below_alloc | apply pw_below_drewN | apply below_drew1) | exact HB.out)) hb); clear HB; have HB := n0_; clear n0_; (try clear hb); (try clear hb2); (try clear hk); (try clear hi)) | ((with_reducible refine gate_callee (f := 45) rfl ?_); refine goesL_ (some 8) rfl rfl Try.func45 (by kernel_rfl) rfl #[.int .i64 a1] rfl (by (try simp only [List.map_toArray, List.map_cons, List.map_nil]); first | done | rfl | (simp only [List.length_drop, List.length_take]; rfl)) ?_; (with_reducible refine (node_two.calls a1 t134 _ A4.out).mono ?_); rintro e w7 ⟨rfl, hb⟩; refine ⟨_, rfl, ?_⟩; have n0_ := Aside0.mk (below_step (by repeat (first | (with_reducible first | exact HB.out | apply below_alloc | apply pw_below_drewN | apply below_drew1) | exact HB.out)) hb); clear HB; have HB := n0_; clear n0_; (try clear hb); (try clear hb2); (try clear hk); (try clear hi)))
    go_ret
    exact ⟨by first | rfl | exact isEmpty_bne_ _ | (simp [errW_none, errW_some] <;> rfl) | (simp [*, errW_none, errW_some] <;> rfl), by repeat (first | (with_reducible first | exact HB.out | apply below_alloc | apply pw_below_drewN | apply below_drew1) | exact HB.out)⟩
  · rw [if_neg c5] at H
    exact absurd H (by simp)

end Go.Proofs.Ytakchpeohmkpkaa.Q

namespace Go.Proofs.Ytakchpeohmkpkaa.Q
open Go.RowKit Go.Proofs.YtakchpeohmkpkaaW.PrintWords Go.Proofs.YtakchpeohmkpkaaW.PrintLast Go.Proofs.YtakchpeohmkpkaaW.PrintMore
set_option linter.unusedVariables false
set_option linter.unusedSimpArgs false
/-- The number of two bytes, the higher one first. -/
def num2 (s : ByteArray) : Int := bt s 0 * 256 + bt s 1
def goodInoB (a : Int) : Bool := decide (1 ≤ a) && decide (a ≤ 4096)
def goodBlockB (a : Int) : Bool := decide (0 ≤ a) && decide (a < 128)
theorem or_i64 (h l : Int) (hh : 0 ≤ h ∧ h < 256) (hl : 0 ≤ l ∧ l < 256) : Go.bits .or .i64 (h * 256) l = h * 256 + l := by
  obtain ⟨h, rfl⟩ := Int.eq_ofNat_of_zero_le hh.1
  obtain ⟨l, rfl⟩ := Int.eq_ofNat_of_zero_le hl.1
  have hor : (h * 256) ||| l = h * 256 + l := by
    have := Nat.two_pow_add_eq_or_of_lt (i := 8) (b := l) (by omega) h
    simp only [Nat.reducePow] at this
    rw [Nat.mul_comm h 256]
    omega
  have hx : (h * 256) ||| l < 65536 := by rw [hor]; omega
  have h1 : (BitVec.ofInt 64 ((h : Int) * 256)).toNat = h * 256 := by
    rw [show ((h : Int) * 256) = ((h * 256 : Nat) : Int) from by simp, BitVec.ofInt_natCast, BitVec.toNat_ofNat]; exact Nat.mod_eq_of_lt (by omega)
  have h2 : (BitVec.ofInt 64 (l : Int)).toNat = l := by
    rw [BitVec.ofInt_natCast, BitVec.toNat_ofNat]; exact Nat.mod_eq_of_lt (by omega)
  show IntKind.i64.wrap ((BitVec.ofInt 64 ((h : Int) * 256) ||| BitVec.ofInt 64 (l : Int)).toNat : Int) = _
  rw [BitVec.toNat_or, h1, h2, hor, IntKind.wrap_i64]
  omega
theorem num_f (s : ByteArray) (h : 2 ≤ s.size) : node_number.f s = some (num2 s) := by
  unfold node_number.f num2
  rw [if_pos (by omega), if_pos (by omega)]
  have r0 := bt_range s 0
  have r1 := bt_range s 1
  rw [show wrap64 (bt s 0) = bt s 0 from by unfold wrap64; omega, show wrap64 (bt s 0 * 256) = bt s 0 * 256 from by unfold wrap64; omega, show wrap64 (bt s 1) = bt s 1 from by unfold wrap64; omega, or_i64 _ _ (by omega) (by omega)]
theorem num_calls (s : ByteArray) (w : World) (h : 2 ≤ s.size) : Calls Try.prog 55 #[.string s] w fun e w' => e = .returned (.int .i64 (num2 s)) ∧ Drawn0 w w' := node_number.calls s _ w (num_f s h)
theorem good_calls (a : Int) (w : World) : Calls Try.prog 56 #[.int .i64 a] w fun e w' => e = .returned (.bool (goodInoB a)) ∧ Drawn0 w w' := by
  refine node_goodIno.calls a _ w ?_
  unfold node_goodIno.f goodInoB
  by_cases h : a ≥ 1 <;> simp [h] <;> omega
theorem blk_calls (a : Int) (w : World) : Calls Try.prog 57 #[.int .i64 a] w fun e w' => e = .returned (.bool (goodBlockB a)) ∧ Drawn0 w w' := by
  refine node_goodBlock.calls a _ w ?_
  unfold node_goodBlock.f goodBlockB
  by_cases h : a ≥ 0 <;> simp [h] <;> omega
set_option maxHeartbeats 8000000 in
set_option maxRecDepth 100000 in
theorem kind_s (s : ByteArray) (w : World) (h3 : s.size < 3) : Calls Try.prog 30 #[.string s] w fun e w' => e = .returned (.tuple #[.int .i64 0, .int .i64 0, .string ⟨#[]⟩, .int .i64 0]) ∧ Below w.heap.size w w' := by
  have a1 : decide ((s.size : Int) < 3) = true := decide_eq_true (by omega)
  have a2 : decide (s.size < 3) = true := decide_eq_true (by omega)
  go_enter Try.func30, Try.ntmps30
  go_wp2
  refine bodyPost_ret (results_list (rs := [.tmp 2, .tmp 3, .tmp 4, .tmp 5]) rfl (by simp) (.tmp (.tmp (.tmp (.tmp .nil))))) rfl ?_
  exact ⟨rfl, Below.refl _ _⟩
set_option maxHeartbeats 8000000 in
set_option maxRecDepth 100000 in
theorem kind_o1 (s rest pre : ByteArray) (e : Int) (w : World) (h3 : 3 ≤ s.size) (hrest : s.extract 3 s.size = rest) (hpre : s.extract 0 3 = pre) (hr2 : 2 ≤ rest.size)
    (f0 : (num2 s == 0) = true) (f1 : (num2 s != 0) = false) (f2 : (pre.toList == ([0, 0, 4] : List UInt8)) = true) (f3 : (pre.toList != ([0, 0, 4] : List UInt8)) = false) (f4 : ((rest.size : Int) == 2) = true) (f5 : ((rest.size : Int) != 2) = false) (f6 : (rest.size == 2) = true) (f7 : (rest.size != 2) = false) (f8 : goodInoB (num2 rest) = true) : Calls Try.prog 30 #[.string s] w fun e w' => e = .returned (.tuple #[.int .i64 4, .int .i64 (num2 rest), .string ⟨#[]⟩, .int .i64 0]) ∧ Below w.heap.size w w' := by
  have h2 : 2 ≤ s.size := by omega
  have a1 : decide ((s.size : Int) < 3) = false := decide_eq_false (by omega)
  have a2 : decide (s.size < 3) = false := decide_eq_false (by omega)
  have b0 : (3 ≤ (s.size : Int)) = True := eq_true (by omega)
  have b1 : decide (3 ≤ (s.size : Int)) = true := decide_eq_true (by omega)
  have b2 : (2 < s.size) = True := eq_true (by omega)
  have b3 : (2 < (s.size : Int)) = True := eq_true (by omega)
  have hx : ∀ h : 2 < s.size, ((s[2]'h).toNat : Int) = bt s 2 := bt_at s 2
  obtain ⟨r0, r1⟩ := bt_range s 2
  go_enter Try.func30, Try.ntmps30
  go_wp2_with (first
    | (go_at_call 55; (with_reducible refine (num_calls _ _ (by assumption)).mono ?_); rintro e w' ⟨rfl, ⟨nd, rfl⟩⟩)
    | (go_at_call 56; (with_reducible refine (good_calls _ _).mono ?_); rintro e w' ⟨rfl, ⟨nd, rfl⟩⟩)
    | (go_at_call 57; (with_reducible refine (blk_calls _ _).mono ?_); rintro e w' ⟨rfl, ⟨nd, rfl⟩⟩)
    | (go_at_call 31; (with_reducible refine (names_Right.calls rest e _ HE.out).mono ?_); rintro e w1 ⟨rfl, hb1⟩))
  go_quiet ((go_at_call 55; exact Calls.quiet_of ((num_calls _ _ (by assumption)).mono fun _ _ ⟨he_, hd_⟩ => ⟨he_, hd_.out⟩)))
  go_wp2_with (first
    | (go_at_call 55; (with_reducible refine (num_calls _ _ (by assumption)).mono ?_); rintro e w' ⟨rfl, ⟨nd, rfl⟩⟩)
    | (go_at_call 56; (with_reducible refine (good_calls _ _).mono ?_); rintro e w' ⟨rfl, ⟨nd, rfl⟩⟩)
    | (go_at_call 57; (with_reducible refine (blk_calls _ _).mono ?_); rintro e w' ⟨rfl, ⟨nd, rfl⟩⟩)
    | (go_at_call 31; (with_reducible refine (names_Right.calls rest e _ HE.out).mono ?_); rintro e w1 ⟨rfl, hb1⟩))
  refine bodyPost_ret (results_list (rs := [.tmp 2, .tmp 3, .tmp 4, .tmp 5]) rfl (by simp) (.tmp (.tmp (.tmp (.tmp .nil))))) rfl ?_
  exact ⟨rfl, by repeat (first | exact Below.refl _ _ | apply pw_below_drewN | apply below_drew1)⟩
set_option maxHeartbeats 8000000 in
set_option maxRecDepth 100000 in
theorem kind_o2 (s rest pre : ByteArray) (e : Int) (w : World) (h3 : 3 ≤ s.size) (hrest : s.extract 3 s.size = rest) (hpre : s.extract 0 3 = pre) (hr2 : 2 ≤ rest.size)
    (f0 : (num2 s == 0) = true) (f1 : (num2 s != 0) = false) (f2 : goodInoB (num2 s) = false) (f3 : (pre.toList == ([0, 0, 4] : List UInt8)) = true) (f4 : (pre.toList != ([0, 0, 4] : List UInt8)) = false) (f5 : ((rest.size : Int) == 2) = true) (f6 : ((rest.size : Int) != 2) = false) (f7 : (rest.size == 2) = true) (f8 : (rest.size != 2) = false) (f9 : goodInoB (num2 rest) = false) : Calls Try.prog 30 #[.string s] w fun e w' => e = .returned (.tuple #[.int .i64 0, .int .i64 0, .string ⟨#[]⟩, .int .i64 0]) ∧ Below w.heap.size w w' := by
  have h2 : 2 ≤ s.size := by omega
  have a1 : decide ((s.size : Int) < 3) = false := decide_eq_false (by omega)
  have a2 : decide (s.size < 3) = false := decide_eq_false (by omega)
  have b0 : (3 ≤ (s.size : Int)) = True := eq_true (by omega)
  have b1 : decide (3 ≤ (s.size : Int)) = true := decide_eq_true (by omega)
  have b2 : (2 < s.size) = True := eq_true (by omega)
  have b3 : (2 < (s.size : Int)) = True := eq_true (by omega)
  have hx : ∀ h : 2 < s.size, ((s[2]'h).toNat : Int) = bt s 2 := bt_at s 2
  obtain ⟨r0, r1⟩ := bt_range s 2
  go_enter Try.func30, Try.ntmps30
  go_wp2_with (first
    | (go_at_call 55; (with_reducible refine (num_calls _ _ (by assumption)).mono ?_); rintro e w' ⟨rfl, ⟨nd, rfl⟩⟩)
    | (go_at_call 56; (with_reducible refine (good_calls _ _).mono ?_); rintro e w' ⟨rfl, ⟨nd, rfl⟩⟩)
    | (go_at_call 57; (with_reducible refine (blk_calls _ _).mono ?_); rintro e w' ⟨rfl, ⟨nd, rfl⟩⟩)
    | (go_at_call 31; (with_reducible refine (names_Right.calls rest e _ HE.out).mono ?_); rintro e w1 ⟨rfl, hb1⟩))
  go_quiet ((go_at_call 55; exact Calls.quiet_of ((num_calls _ _ (by assumption)).mono fun _ _ ⟨he_, hd_⟩ => ⟨he_, hd_.out⟩)))
  go_wp2_with (first
    | (go_at_call 55; (with_reducible refine (num_calls _ _ (by assumption)).mono ?_); rintro e w' ⟨rfl, ⟨nd, rfl⟩⟩)
    | (go_at_call 56; (with_reducible refine (good_calls _ _).mono ?_); rintro e w' ⟨rfl, ⟨nd, rfl⟩⟩)
    | (go_at_call 57; (with_reducible refine (blk_calls _ _).mono ?_); rintro e w' ⟨rfl, ⟨nd, rfl⟩⟩)
    | (go_at_call 31; (with_reducible refine (names_Right.calls rest e _ HE.out).mono ?_); rintro e w1 ⟨rfl, hb1⟩))
  refine bodyPost_ret (results_list (rs := [.tmp 2, .tmp 3, .tmp 4, .tmp 5]) rfl (by simp) (.tmp (.tmp (.tmp (.tmp .nil))))) rfl ?_
  exact ⟨rfl, by repeat (first | exact Below.refl _ _ | apply pw_below_drewN | apply below_drew1)⟩
set_option maxHeartbeats 8000000 in
set_option maxRecDepth 100000 in
theorem kind_o3 (s rest pre : ByteArray) (e : Int) (w : World) (h3 : 3 ≤ s.size) (hrest : s.extract 3 s.size = rest) (hpre : s.extract 0 3 = pre)
    (f0 : (num2 s == 0) = true) (f1 : (num2 s != 0) = false) (f2 : goodInoB (num2 s) = false) (f3 : (pre.toList == ([0, 0, 4] : List UInt8)) = true) (f4 : (pre.toList != ([0, 0, 4] : List UInt8)) = false) (f5 : ((rest.size : Int) == 2) = false) (f6 : ((rest.size : Int) != 2) = true) (f7 : (rest.size == 2) = false) (f8 : (rest.size != 2) = true) : Calls Try.prog 30 #[.string s] w fun e w' => e = .returned (.tuple #[.int .i64 0, .int .i64 0, .string ⟨#[]⟩, .int .i64 0]) ∧ Below w.heap.size w w' := by
  have h2 : 2 ≤ s.size := by omega
  have a1 : decide ((s.size : Int) < 3) = false := decide_eq_false (by omega)
  have a2 : decide (s.size < 3) = false := decide_eq_false (by omega)
  have b0 : (3 ≤ (s.size : Int)) = True := eq_true (by omega)
  have b1 : decide (3 ≤ (s.size : Int)) = true := decide_eq_true (by omega)
  have b2 : (2 < s.size) = True := eq_true (by omega)
  have b3 : (2 < (s.size : Int)) = True := eq_true (by omega)
  have hx : ∀ h : 2 < s.size, ((s[2]'h).toNat : Int) = bt s 2 := bt_at s 2
  obtain ⟨r0, r1⟩ := bt_range s 2
  go_enter Try.func30, Try.ntmps30
  go_wp2_with (first
    | (go_at_call 55; (with_reducible refine (num_calls _ _ (by assumption)).mono ?_); rintro e w' ⟨rfl, ⟨nd, rfl⟩⟩)
    | (go_at_call 56; (with_reducible refine (good_calls _ _).mono ?_); rintro e w' ⟨rfl, ⟨nd, rfl⟩⟩)
    | (go_at_call 57; (with_reducible refine (blk_calls _ _).mono ?_); rintro e w' ⟨rfl, ⟨nd, rfl⟩⟩)
    | (go_at_call 31; (with_reducible refine (names_Right.calls rest e _ HE.out).mono ?_); rintro e w1 ⟨rfl, hb1⟩))
  go_quiet ((go_at_call 55; exact Calls.quiet_of ((num_calls _ _ (by assumption)).mono fun _ _ ⟨he_, hd_⟩ => ⟨he_, hd_.out⟩)))
  go_wp2_with (first
    | (go_at_call 55; (with_reducible refine (num_calls _ _ (by assumption)).mono ?_); rintro e w' ⟨rfl, ⟨nd, rfl⟩⟩)
    | (go_at_call 56; (with_reducible refine (good_calls _ _).mono ?_); rintro e w' ⟨rfl, ⟨nd, rfl⟩⟩)
    | (go_at_call 57; (with_reducible refine (blk_calls _ _).mono ?_); rintro e w' ⟨rfl, ⟨nd, rfl⟩⟩)
    | (go_at_call 31; (with_reducible refine (names_Right.calls rest e _ HE.out).mono ?_); rintro e w1 ⟨rfl, hb1⟩))
  refine bodyPost_ret (results_list (rs := [.tmp 2, .tmp 3, .tmp 4, .tmp 5]) rfl (by simp) (.tmp (.tmp (.tmp (.tmp .nil))))) rfl ?_
  exact ⟨rfl, by repeat (first | exact Below.refl _ _ | apply pw_below_drewN | apply below_drew1)⟩
set_option maxHeartbeats 8000000 in
set_option maxRecDepth 100000 in
theorem kind_o4 (s rest pre : ByteArray) (e : Int) (w : World) (h3 : 3 ≤ s.size) (hrest : s.extract 3 s.size = rest) (hpre : s.extract 0 3 = pre)
    (f0 : (num2 s == 0) = true) (f1 : (num2 s != 0) = false) (f2 : goodInoB (num2 s) = false) (f3 : (pre.toList == ([0, 0, 4] : List UInt8)) = false) (f4 : (pre.toList != ([0, 0, 4] : List UInt8)) = true) : Calls Try.prog 30 #[.string s] w fun e w' => e = .returned (.tuple #[.int .i64 0, .int .i64 0, .string ⟨#[]⟩, .int .i64 0]) ∧ Below w.heap.size w w' := by
  have h2 : 2 ≤ s.size := by omega
  have a1 : decide ((s.size : Int) < 3) = false := decide_eq_false (by omega)
  have a2 : decide (s.size < 3) = false := decide_eq_false (by omega)
  have b0 : (3 ≤ (s.size : Int)) = True := eq_true (by omega)
  have b1 : decide (3 ≤ (s.size : Int)) = true := decide_eq_true (by omega)
  have b2 : (2 < s.size) = True := eq_true (by omega)
  have b3 : (2 < (s.size : Int)) = True := eq_true (by omega)
  have hx : ∀ h : 2 < s.size, ((s[2]'h).toNat : Int) = bt s 2 := bt_at s 2
  obtain ⟨r0, r1⟩ := bt_range s 2
  go_enter Try.func30, Try.ntmps30
  go_wp2_with (first
    | (go_at_call 55; (with_reducible refine (num_calls _ _ (by assumption)).mono ?_); rintro e w' ⟨rfl, ⟨nd, rfl⟩⟩)
    | (go_at_call 56; (with_reducible refine (good_calls _ _).mono ?_); rintro e w' ⟨rfl, ⟨nd, rfl⟩⟩)
    | (go_at_call 57; (with_reducible refine (blk_calls _ _).mono ?_); rintro e w' ⟨rfl, ⟨nd, rfl⟩⟩)
    | (go_at_call 31; (with_reducible refine (names_Right.calls rest e _ HE.out).mono ?_); rintro e w1 ⟨rfl, hb1⟩))
  go_quiet ((go_at_call 55; exact Calls.quiet_of ((num_calls _ _ (by assumption)).mono fun _ _ ⟨he_, hd_⟩ => ⟨he_, hd_.out⟩)))
  go_wp2_with (first
    | (go_at_call 55; (with_reducible refine (num_calls _ _ (by assumption)).mono ?_); rintro e w' ⟨rfl, ⟨nd, rfl⟩⟩)
    | (go_at_call 56; (with_reducible refine (good_calls _ _).mono ?_); rintro e w' ⟨rfl, ⟨nd, rfl⟩⟩)
    | (go_at_call 57; (with_reducible refine (blk_calls _ _).mono ?_); rintro e w' ⟨rfl, ⟨nd, rfl⟩⟩)
    | (go_at_call 31; (with_reducible refine (names_Right.calls rest e _ HE.out).mono ?_); rintro e w1 ⟨rfl, hb1⟩))
  refine bodyPost_ret (results_list (rs := [.tmp 2, .tmp 3, .tmp 4, .tmp 5]) rfl (by simp) (.tmp (.tmp (.tmp (.tmp .nil))))) rfl ?_
  exact ⟨rfl, by repeat (first | exact Below.refl _ _ | apply pw_below_drewN | apply below_drew1)⟩
set_option maxHeartbeats 8000000 in
set_option maxRecDepth 100000 in
theorem kind_b1 (s rest pre : ByteArray) (e : Int) (w : World) (h3 : 3 ≤ s.size) (hrest : s.extract 3 s.size = rest) (hpre : s.extract 0 3 = pre)
    (f0 : (num2 s == 0) = false) (f1 : (num2 s != 0) = true) (f2 : goodInoB (num2 s) = false) : Calls Try.prog 30 #[.string s] w fun e w' => e = .returned (.tuple #[.int .i64 0, .int .i64 0, .string ⟨#[]⟩, .int .i64 0]) ∧ Below w.heap.size w w' := by
  have h2 : 2 ≤ s.size := by omega
  have a1 : decide ((s.size : Int) < 3) = false := decide_eq_false (by omega)
  have a2 : decide (s.size < 3) = false := decide_eq_false (by omega)
  have b0 : (3 ≤ (s.size : Int)) = True := eq_true (by omega)
  have b1 : decide (3 ≤ (s.size : Int)) = true := decide_eq_true (by omega)
  have b2 : (2 < s.size) = True := eq_true (by omega)
  have b3 : (2 < (s.size : Int)) = True := eq_true (by omega)
  have hx : ∀ h : 2 < s.size, ((s[2]'h).toNat : Int) = bt s 2 := bt_at s 2
  obtain ⟨r0, r1⟩ := bt_range s 2
  go_enter Try.func30, Try.ntmps30
  go_wp2_with (first
    | (go_at_call 55; (with_reducible refine (num_calls _ _ (by assumption)).mono ?_); rintro e w' ⟨rfl, ⟨nd, rfl⟩⟩)
    | (go_at_call 56; (with_reducible refine (good_calls _ _).mono ?_); rintro e w' ⟨rfl, ⟨nd, rfl⟩⟩)
    | (go_at_call 57; (with_reducible refine (blk_calls _ _).mono ?_); rintro e w' ⟨rfl, ⟨nd, rfl⟩⟩)
    | (go_at_call 31; (with_reducible refine (names_Right.calls rest e _ HE.out).mono ?_); rintro e w1 ⟨rfl, hb1⟩))
  go_quiet ((go_at_call 55; exact Calls.quiet_of ((num_calls _ _ (by assumption)).mono fun _ _ ⟨he_, hd_⟩ => ⟨he_, hd_.out⟩)))
  go_wp2_with (first
    | (go_at_call 55; (with_reducible refine (num_calls _ _ (by assumption)).mono ?_); rintro e w' ⟨rfl, ⟨nd, rfl⟩⟩)
    | (go_at_call 56; (with_reducible refine (good_calls _ _).mono ?_); rintro e w' ⟨rfl, ⟨nd, rfl⟩⟩)
    | (go_at_call 57; (with_reducible refine (blk_calls _ _).mono ?_); rintro e w' ⟨rfl, ⟨nd, rfl⟩⟩)
    | (go_at_call 31; (with_reducible refine (names_Right.calls rest e _ HE.out).mono ?_); rintro e w1 ⟨rfl, hb1⟩))
  refine bodyPost_ret (results_list (rs := [.tmp 2, .tmp 3, .tmp 4, .tmp 5]) rfl (by simp) (.tmp (.tmp (.tmp (.tmp .nil))))) rfl ?_
  exact ⟨rfl, by repeat (first | exact Below.refl _ _ | apply pw_below_drewN | apply below_drew1)⟩
set_option maxHeartbeats 8000000 in
set_option maxRecDepth 100000 in
theorem kind_i1 (s rest pre : ByteArray) (e : Int) (w : World) (h3 : 3 ≤ s.size) (hrest : s.extract 3 s.size = rest) (hpre : s.extract 0 3 = pre)
    (f0 : (num2 s == 0) = false) (f1 : (num2 s != 0) = true) (f2 : goodInoB (num2 s) = true) (f3 : (bt s 2 == 1) = true) (f4 : (bt s 2 != 1) = false) (f5 : (rest.toList == ([] : List UInt8)) = true) (f6 : (rest.toList != ([] : List UInt8)) = false) (f7 : rest.toList.isEmpty = true) (f8 : (!rest.toList.isEmpty) = false) : Calls Try.prog 30 #[.string s] w fun e w' => e = .returned (.tuple #[.int .i64 1, .int .i64 (num2 s), .string ⟨#[]⟩, .int .i64 0]) ∧ Below w.heap.size w w' := by
  have h2 : 2 ≤ s.size := by omega
  have a1 : decide ((s.size : Int) < 3) = false := decide_eq_false (by omega)
  have a2 : decide (s.size < 3) = false := decide_eq_false (by omega)
  have b0 : (3 ≤ (s.size : Int)) = True := eq_true (by omega)
  have b1 : decide (3 ≤ (s.size : Int)) = true := decide_eq_true (by omega)
  have b2 : (2 < s.size) = True := eq_true (by omega)
  have b3 : (2 < (s.size : Int)) = True := eq_true (by omega)
  have hx : ∀ h : 2 < s.size, ((s[2]'h).toNat : Int) = bt s 2 := bt_at s 2
  obtain ⟨r0, r1⟩ := bt_range s 2
  go_enter Try.func30, Try.ntmps30
  go_wp2_with (first
    | (go_at_call 55; (with_reducible refine (num_calls _ _ (by assumption)).mono ?_); rintro e w' ⟨rfl, ⟨nd, rfl⟩⟩)
    | (go_at_call 56; (with_reducible refine (good_calls _ _).mono ?_); rintro e w' ⟨rfl, ⟨nd, rfl⟩⟩)
    | (go_at_call 57; (with_reducible refine (blk_calls _ _).mono ?_); rintro e w' ⟨rfl, ⟨nd, rfl⟩⟩)
    | (go_at_call 31; (with_reducible refine (names_Right.calls rest e _ HE.out).mono ?_); rintro e w1 ⟨rfl, hb1⟩))
  go_quiet ((go_at_call 55; exact Calls.quiet_of ((num_calls _ _ (by assumption)).mono fun _ _ ⟨he_, hd_⟩ => ⟨he_, hd_.out⟩)))
  go_wp2_with (first
    | (go_at_call 55; (with_reducible refine (num_calls _ _ (by assumption)).mono ?_); rintro e w' ⟨rfl, ⟨nd, rfl⟩⟩)
    | (go_at_call 56; (with_reducible refine (good_calls _ _).mono ?_); rintro e w' ⟨rfl, ⟨nd, rfl⟩⟩)
    | (go_at_call 57; (with_reducible refine (blk_calls _ _).mono ?_); rintro e w' ⟨rfl, ⟨nd, rfl⟩⟩)
    | (go_at_call 31; (with_reducible refine (names_Right.calls rest e _ HE.out).mono ?_); rintro e w1 ⟨rfl, hb1⟩))
  refine bodyPost_ret (results_list (rs := [.tmp 2, .tmp 3, .tmp 4, .tmp 5]) rfl (by simp) (.tmp (.tmp (.tmp (.tmp .nil))))) rfl ?_
  exact ⟨rfl, by repeat (first | exact Below.refl _ _ | apply pw_below_drewN | apply below_drew1)⟩
set_option maxHeartbeats 8000000 in
set_option maxRecDepth 100000 in
theorem kind_i2 (s rest pre : ByteArray) (e : Int) (w : World) (h3 : 3 ≤ s.size) (hrest : s.extract 3 s.size = rest) (hpre : s.extract 0 3 = pre)
    (f0 : (num2 s == 0) = false) (f1 : (num2 s != 0) = true) (f2 : goodInoB (num2 s) = true) (f3 : (bt s 2 == 1) = true) (f4 : (bt s 2 != 1) = false) (f5 : (bt s 2 == 2) = false) (f6 : (bt s 2 != 2) = true) (f7 : (bt s 2 == 3) = false) (f8 : (bt s 2 != 3) = true) (f9 : (rest.toList == ([] : List UInt8)) = false) (f10 : (rest.toList != ([] : List UInt8)) = true) (f11 : rest.toList.isEmpty = false) (f12 : (!rest.toList.isEmpty) = true) : Calls Try.prog 30 #[.string s] w fun e w' => e = .returned (.tuple #[.int .i64 0, .int .i64 0, .string ⟨#[]⟩, .int .i64 0]) ∧ Below w.heap.size w w' := by
  have h2 : 2 ≤ s.size := by omega
  have a1 : decide ((s.size : Int) < 3) = false := decide_eq_false (by omega)
  have a2 : decide (s.size < 3) = false := decide_eq_false (by omega)
  have b0 : (3 ≤ (s.size : Int)) = True := eq_true (by omega)
  have b1 : decide (3 ≤ (s.size : Int)) = true := decide_eq_true (by omega)
  have b2 : (2 < s.size) = True := eq_true (by omega)
  have b3 : (2 < (s.size : Int)) = True := eq_true (by omega)
  have hx : ∀ h : 2 < s.size, ((s[2]'h).toNat : Int) = bt s 2 := bt_at s 2
  obtain ⟨r0, r1⟩ := bt_range s 2
  go_enter Try.func30, Try.ntmps30
  go_wp2_with (first
    | (go_at_call 55; (with_reducible refine (num_calls _ _ (by assumption)).mono ?_); rintro e w' ⟨rfl, ⟨nd, rfl⟩⟩)
    | (go_at_call 56; (with_reducible refine (good_calls _ _).mono ?_); rintro e w' ⟨rfl, ⟨nd, rfl⟩⟩)
    | (go_at_call 57; (with_reducible refine (blk_calls _ _).mono ?_); rintro e w' ⟨rfl, ⟨nd, rfl⟩⟩)
    | (go_at_call 31; (with_reducible refine (names_Right.calls rest e _ HE.out).mono ?_); rintro e w1 ⟨rfl, hb1⟩))
  go_quiet ((go_at_call 55; exact Calls.quiet_of ((num_calls _ _ (by assumption)).mono fun _ _ ⟨he_, hd_⟩ => ⟨he_, hd_.out⟩)))
  go_wp2_with (first
    | (go_at_call 55; (with_reducible refine (num_calls _ _ (by assumption)).mono ?_); rintro e w' ⟨rfl, ⟨nd, rfl⟩⟩)
    | (go_at_call 56; (with_reducible refine (good_calls _ _).mono ?_); rintro e w' ⟨rfl, ⟨nd, rfl⟩⟩)
    | (go_at_call 57; (with_reducible refine (blk_calls _ _).mono ?_); rintro e w' ⟨rfl, ⟨nd, rfl⟩⟩)
    | (go_at_call 31; (with_reducible refine (names_Right.calls rest e _ HE.out).mono ?_); rintro e w1 ⟨rfl, hb1⟩))
  refine bodyPost_ret (results_list (rs := [.tmp 2, .tmp 3, .tmp 4, .tmp 5]) rfl (by simp) (.tmp (.tmp (.tmp (.tmp .nil))))) rfl ?_
  exact ⟨rfl, by repeat (first | exact Below.refl _ _ | apply pw_below_drewN | apply below_drew1)⟩
set_option maxHeartbeats 8000000 in
set_option maxRecDepth 100000 in
theorem kind_e1 (s rest pre : ByteArray) (e : Int) (w : World) (h3 : 3 ≤ s.size) (hrest : s.extract 3 s.size = rest) (hpre : s.extract 0 3 = pre) (hR : names_Right.f rest = some e)
    (f0 : (num2 s == 0) = false) (f1 : (num2 s != 0) = true) (f2 : goodInoB (num2 s) = true) (f3 : (bt s 2 == 1) = false) (f4 : (bt s 2 != 1) = true) (f5 : (bt s 2 == 2) = true) (f6 : (bt s 2 != 2) = false) (f7 : (e == 0) = true) (f8 : (e != 0) = false) : Calls Try.prog 30 #[.string s] w fun e w' => e = .returned (.tuple #[.int .i64 2, .int .i64 (num2 s), .string rest, .int .i64 0]) ∧ Below w.heap.size w w' := by
  have h2 : 2 ≤ s.size := by omega
  have a1 : decide ((s.size : Int) < 3) = false := decide_eq_false (by omega)
  have a2 : decide (s.size < 3) = false := decide_eq_false (by omega)
  have b0 : (3 ≤ (s.size : Int)) = True := eq_true (by omega)
  have b1 : decide (3 ≤ (s.size : Int)) = true := decide_eq_true (by omega)
  have b2 : (2 < s.size) = True := eq_true (by omega)
  have b3 : (2 < (s.size : Int)) = True := eq_true (by omega)
  have hx : ∀ h : 2 < s.size, ((s[2]'h).toNat : Int) = bt s 2 := bt_at s 2
  obtain ⟨r0, r1⟩ := bt_range s 2
  have HE := Aside0.mk hR
  clear hR
  go_enter Try.func30, Try.ntmps30
  go_wp2_with (first
    | (go_at_call 55; (with_reducible refine (num_calls _ _ (by assumption)).mono ?_); rintro e w' ⟨rfl, ⟨nd, rfl⟩⟩)
    | (go_at_call 56; (with_reducible refine (good_calls _ _).mono ?_); rintro e w' ⟨rfl, ⟨nd, rfl⟩⟩)
    | (go_at_call 57; (with_reducible refine (blk_calls _ _).mono ?_); rintro e w' ⟨rfl, ⟨nd, rfl⟩⟩)
    | (go_at_call 31; (with_reducible refine (names_Right.calls rest e _ HE.out).mono ?_); rintro e w1 ⟨rfl, hb1⟩))
  go_quiet ((go_at_call 55; exact Calls.quiet_of ((num_calls _ _ (by assumption)).mono fun _ _ ⟨he_, hd_⟩ => ⟨he_, hd_.out⟩)))
  go_wp2_with (first
    | (go_at_call 55; (with_reducible refine (num_calls _ _ (by assumption)).mono ?_); rintro e w' ⟨rfl, ⟨nd, rfl⟩⟩)
    | (go_at_call 56; (with_reducible refine (good_calls _ _).mono ?_); rintro e w' ⟨rfl, ⟨nd, rfl⟩⟩)
    | (go_at_call 57; (with_reducible refine (blk_calls _ _).mono ?_); rintro e w' ⟨rfl, ⟨nd, rfl⟩⟩)
    | (go_at_call 31; (with_reducible refine (names_Right.calls rest e _ HE.out).mono ?_); rintro e w1 ⟨rfl, hb1⟩))
  refine bodyPost_ret (results_list (rs := [.tmp 2, .tmp 3, .tmp 4, .tmp 5]) rfl (by simp) (.tmp (.tmp (.tmp (.tmp .nil))))) rfl ?_
  exact ⟨rfl, by repeat (first | exact Below.refl _ _ | exact ⟨hb1.os, hb1.tape, hb1.output, hb1.size, hb1.block⟩ | apply pw_below_drewN | apply below_drew1)⟩
set_option maxHeartbeats 8000000 in
set_option maxRecDepth 100000 in
theorem kind_e2 (s rest pre : ByteArray) (e : Int) (w : World) (h3 : 3 ≤ s.size) (hrest : s.extract 3 s.size = rest) (hpre : s.extract 0 3 = pre) (hR : names_Right.f rest = some e)
    (f0 : (num2 s == 0) = false) (f1 : (num2 s != 0) = true) (f2 : goodInoB (num2 s) = true) (f3 : (bt s 2 == 1) = false) (f4 : (bt s 2 != 1) = true) (f5 : (bt s 2 == 2) = true) (f6 : (bt s 2 != 2) = false) (f7 : (bt s 2 == 3) = false) (f8 : (bt s 2 != 3) = true) (f9 : (e == 0) = false) (f10 : (e != 0) = true) : Calls Try.prog 30 #[.string s] w fun e w' => e = .returned (.tuple #[.int .i64 0, .int .i64 0, .string ⟨#[]⟩, .int .i64 0]) ∧ Below w.heap.size w w' := by
  have h2 : 2 ≤ s.size := by omega
  have a1 : decide ((s.size : Int) < 3) = false := decide_eq_false (by omega)
  have a2 : decide (s.size < 3) = false := decide_eq_false (by omega)
  have b0 : (3 ≤ (s.size : Int)) = True := eq_true (by omega)
  have b1 : decide (3 ≤ (s.size : Int)) = true := decide_eq_true (by omega)
  have b2 : (2 < s.size) = True := eq_true (by omega)
  have b3 : (2 < (s.size : Int)) = True := eq_true (by omega)
  have hx : ∀ h : 2 < s.size, ((s[2]'h).toNat : Int) = bt s 2 := bt_at s 2
  obtain ⟨r0, r1⟩ := bt_range s 2
  have HE := Aside0.mk hR
  clear hR
  go_enter Try.func30, Try.ntmps30
  go_wp2_with (first
    | (go_at_call 55; (with_reducible refine (num_calls _ _ (by assumption)).mono ?_); rintro e w' ⟨rfl, ⟨nd, rfl⟩⟩)
    | (go_at_call 56; (with_reducible refine (good_calls _ _).mono ?_); rintro e w' ⟨rfl, ⟨nd, rfl⟩⟩)
    | (go_at_call 57; (with_reducible refine (blk_calls _ _).mono ?_); rintro e w' ⟨rfl, ⟨nd, rfl⟩⟩)
    | (go_at_call 31; (with_reducible refine (names_Right.calls rest e _ HE.out).mono ?_); rintro e w1 ⟨rfl, hb1⟩))
  go_quiet ((go_at_call 55; exact Calls.quiet_of ((num_calls _ _ (by assumption)).mono fun _ _ ⟨he_, hd_⟩ => ⟨he_, hd_.out⟩)))
  go_wp2_with (first
    | (go_at_call 55; (with_reducible refine (num_calls _ _ (by assumption)).mono ?_); rintro e w' ⟨rfl, ⟨nd, rfl⟩⟩)
    | (go_at_call 56; (with_reducible refine (good_calls _ _).mono ?_); rintro e w' ⟨rfl, ⟨nd, rfl⟩⟩)
    | (go_at_call 57; (with_reducible refine (blk_calls _ _).mono ?_); rintro e w' ⟨rfl, ⟨nd, rfl⟩⟩)
    | (go_at_call 31; (with_reducible refine (names_Right.calls rest e _ HE.out).mono ?_); rintro e w1 ⟨rfl, hb1⟩))
  refine bodyPost_ret (results_list (rs := [.tmp 2, .tmp 3, .tmp 4, .tmp 5]) rfl (by simp) (.tmp (.tmp (.tmp (.tmp .nil))))) rfl ?_
  exact ⟨rfl, by repeat (first | exact Below.refl _ _ | exact ⟨hb1.os, hb1.tape, hb1.output, hb1.size, hb1.block⟩ | apply pw_below_drewN | apply below_drew1)⟩
set_option maxHeartbeats 8000000 in
set_option maxRecDepth 100000 in
theorem kind_k1 (s rest pre : ByteArray) (e : Int) (w : World) (h3 : 3 ≤ s.size) (hrest : s.extract 3 s.size = rest) (hpre : s.extract 0 3 = pre) (hr2 : 2 ≤ rest.size)
    (f0 : (num2 s == 0) = false) (f1 : (num2 s != 0) = true) (f2 : goodInoB (num2 s) = true) (f3 : (bt s 2 == 1) = false) (f4 : (bt s 2 != 1) = true) (f5 : (bt s 2 == 2) = false) (f6 : (bt s 2 != 2) = true) (f7 : (bt s 2 == 3) = true) (f8 : (bt s 2 != 3) = false) (f9 : ((rest.size : Int) == 2) = true) (f10 : ((rest.size : Int) != 2) = false) (f11 : (rest.size == 2) = true) (f12 : (rest.size != 2) = false) (f13 : goodBlockB (num2 rest) = true) : Calls Try.prog 30 #[.string s] w fun e w' => e = .returned (.tuple #[.int .i64 3, .int .i64 (num2 s), .string ⟨#[]⟩, .int .i64 (num2 rest)]) ∧ Below w.heap.size w w' := by
  have h2 : 2 ≤ s.size := by omega
  have a1 : decide ((s.size : Int) < 3) = false := decide_eq_false (by omega)
  have a2 : decide (s.size < 3) = false := decide_eq_false (by omega)
  have b0 : (3 ≤ (s.size : Int)) = True := eq_true (by omega)
  have b1 : decide (3 ≤ (s.size : Int)) = true := decide_eq_true (by omega)
  have b2 : (2 < s.size) = True := eq_true (by omega)
  have b3 : (2 < (s.size : Int)) = True := eq_true (by omega)
  have hx : ∀ h : 2 < s.size, ((s[2]'h).toNat : Int) = bt s 2 := bt_at s 2
  obtain ⟨r0, r1⟩ := bt_range s 2
  go_enter Try.func30, Try.ntmps30
  go_wp2_with (first
    | (go_at_call 55; (with_reducible refine (num_calls _ _ (by assumption)).mono ?_); rintro e w' ⟨rfl, ⟨nd, rfl⟩⟩)
    | (go_at_call 56; (with_reducible refine (good_calls _ _).mono ?_); rintro e w' ⟨rfl, ⟨nd, rfl⟩⟩)
    | (go_at_call 57; (with_reducible refine (blk_calls _ _).mono ?_); rintro e w' ⟨rfl, ⟨nd, rfl⟩⟩)
    | (go_at_call 31; (with_reducible refine (names_Right.calls rest e _ HE.out).mono ?_); rintro e w1 ⟨rfl, hb1⟩))
  go_quiet ((go_at_call 55; exact Calls.quiet_of ((num_calls _ _ (by assumption)).mono fun _ _ ⟨he_, hd_⟩ => ⟨he_, hd_.out⟩)))
  go_wp2_with (first
    | (go_at_call 55; (with_reducible refine (num_calls _ _ (by assumption)).mono ?_); rintro e w' ⟨rfl, ⟨nd, rfl⟩⟩)
    | (go_at_call 56; (with_reducible refine (good_calls _ _).mono ?_); rintro e w' ⟨rfl, ⟨nd, rfl⟩⟩)
    | (go_at_call 57; (with_reducible refine (blk_calls _ _).mono ?_); rintro e w' ⟨rfl, ⟨nd, rfl⟩⟩)
    | (go_at_call 31; (with_reducible refine (names_Right.calls rest e _ HE.out).mono ?_); rintro e w1 ⟨rfl, hb1⟩))
  refine bodyPost_ret (results_list (rs := [.tmp 2, .tmp 3, .tmp 4, .tmp 5]) rfl (by simp) (.tmp (.tmp (.tmp (.tmp .nil))))) rfl ?_
  exact ⟨rfl, by repeat (first | exact Below.refl _ _ | apply pw_below_drewN | apply below_drew1)⟩
set_option maxHeartbeats 8000000 in
set_option maxRecDepth 100000 in
theorem kind_k2 (s rest pre : ByteArray) (e : Int) (w : World) (h3 : 3 ≤ s.size) (hrest : s.extract 3 s.size = rest) (hpre : s.extract 0 3 = pre) (hr2 : 2 ≤ rest.size)
    (f0 : (num2 s == 0) = false) (f1 : (num2 s != 0) = true) (f2 : goodInoB (num2 s) = true) (f3 : (bt s 2 == 1) = false) (f4 : (bt s 2 != 1) = true) (f5 : (bt s 2 == 2) = false) (f6 : (bt s 2 != 2) = true) (f7 : (bt s 2 == 3) = true) (f8 : (bt s 2 != 3) = false) (f9 : ((rest.size : Int) == 2) = true) (f10 : ((rest.size : Int) != 2) = false) (f11 : (rest.size == 2) = true) (f12 : (rest.size != 2) = false) (f13 : goodBlockB (num2 rest) = false) : Calls Try.prog 30 #[.string s] w fun e w' => e = .returned (.tuple #[.int .i64 0, .int .i64 0, .string ⟨#[]⟩, .int .i64 0]) ∧ Below w.heap.size w w' := by
  have h2 : 2 ≤ s.size := by omega
  have a1 : decide ((s.size : Int) < 3) = false := decide_eq_false (by omega)
  have a2 : decide (s.size < 3) = false := decide_eq_false (by omega)
  have b0 : (3 ≤ (s.size : Int)) = True := eq_true (by omega)
  have b1 : decide (3 ≤ (s.size : Int)) = true := decide_eq_true (by omega)
  have b2 : (2 < s.size) = True := eq_true (by omega)
  have b3 : (2 < (s.size : Int)) = True := eq_true (by omega)
  have hx : ∀ h : 2 < s.size, ((s[2]'h).toNat : Int) = bt s 2 := bt_at s 2
  obtain ⟨r0, r1⟩ := bt_range s 2
  go_enter Try.func30, Try.ntmps30
  go_wp2_with (first
    | (go_at_call 55; (with_reducible refine (num_calls _ _ (by assumption)).mono ?_); rintro e w' ⟨rfl, ⟨nd, rfl⟩⟩)
    | (go_at_call 56; (with_reducible refine (good_calls _ _).mono ?_); rintro e w' ⟨rfl, ⟨nd, rfl⟩⟩)
    | (go_at_call 57; (with_reducible refine (blk_calls _ _).mono ?_); rintro e w' ⟨rfl, ⟨nd, rfl⟩⟩)
    | (go_at_call 31; (with_reducible refine (names_Right.calls rest e _ HE.out).mono ?_); rintro e w1 ⟨rfl, hb1⟩))
  go_quiet ((go_at_call 55; exact Calls.quiet_of ((num_calls _ _ (by assumption)).mono fun _ _ ⟨he_, hd_⟩ => ⟨he_, hd_.out⟩)))
  go_wp2_with (first
    | (go_at_call 55; (with_reducible refine (num_calls _ _ (by assumption)).mono ?_); rintro e w' ⟨rfl, ⟨nd, rfl⟩⟩)
    | (go_at_call 56; (with_reducible refine (good_calls _ _).mono ?_); rintro e w' ⟨rfl, ⟨nd, rfl⟩⟩)
    | (go_at_call 57; (with_reducible refine (blk_calls _ _).mono ?_); rintro e w' ⟨rfl, ⟨nd, rfl⟩⟩)
    | (go_at_call 31; (with_reducible refine (names_Right.calls rest e _ HE.out).mono ?_); rintro e w1 ⟨rfl, hb1⟩))
  refine bodyPost_ret (results_list (rs := [.tmp 2, .tmp 3, .tmp 4, .tmp 5]) rfl (by simp) (.tmp (.tmp (.tmp (.tmp .nil))))) rfl ?_
  exact ⟨rfl, by repeat (first | exact Below.refl _ _ | apply pw_below_drewN | apply below_drew1)⟩
set_option maxHeartbeats 8000000 in
set_option maxRecDepth 100000 in
theorem kind_k3 (s rest pre : ByteArray) (e : Int) (w : World) (h3 : 3 ≤ s.size) (hrest : s.extract 3 s.size = rest) (hpre : s.extract 0 3 = pre)
    (f0 : (num2 s == 0) = false) (f1 : (num2 s != 0) = true) (f2 : goodInoB (num2 s) = true) (f3 : (bt s 2 == 1) = false) (f4 : (bt s 2 != 1) = true) (f5 : (bt s 2 == 2) = false) (f6 : (bt s 2 != 2) = true) (f7 : (bt s 2 == 3) = true) (f8 : (bt s 2 != 3) = false) (f9 : ((rest.size : Int) == 2) = false) (f10 : ((rest.size : Int) != 2) = true) (f11 : (rest.size == 2) = false) (f12 : (rest.size != 2) = true) : Calls Try.prog 30 #[.string s] w fun e w' => e = .returned (.tuple #[.int .i64 0, .int .i64 0, .string ⟨#[]⟩, .int .i64 0]) ∧ Below w.heap.size w w' := by
  have h2 : 2 ≤ s.size := by omega
  have a1 : decide ((s.size : Int) < 3) = false := decide_eq_false (by omega)
  have a2 : decide (s.size < 3) = false := decide_eq_false (by omega)
  have b0 : (3 ≤ (s.size : Int)) = True := eq_true (by omega)
  have b1 : decide (3 ≤ (s.size : Int)) = true := decide_eq_true (by omega)
  have b2 : (2 < s.size) = True := eq_true (by omega)
  have b3 : (2 < (s.size : Int)) = True := eq_true (by omega)
  have hx : ∀ h : 2 < s.size, ((s[2]'h).toNat : Int) = bt s 2 := bt_at s 2
  obtain ⟨r0, r1⟩ := bt_range s 2
  go_enter Try.func30, Try.ntmps30
  go_wp2_with (first
    | (go_at_call 55; (with_reducible refine (num_calls _ _ (by assumption)).mono ?_); rintro e w' ⟨rfl, ⟨nd, rfl⟩⟩)
    | (go_at_call 56; (with_reducible refine (good_calls _ _).mono ?_); rintro e w' ⟨rfl, ⟨nd, rfl⟩⟩)
    | (go_at_call 57; (with_reducible refine (blk_calls _ _).mono ?_); rintro e w' ⟨rfl, ⟨nd, rfl⟩⟩)
    | (go_at_call 31; (with_reducible refine (names_Right.calls rest e _ HE.out).mono ?_); rintro e w1 ⟨rfl, hb1⟩))
  go_quiet ((go_at_call 55; exact Calls.quiet_of ((num_calls _ _ (by assumption)).mono fun _ _ ⟨he_, hd_⟩ => ⟨he_, hd_.out⟩)))
  go_wp2_with (first
    | (go_at_call 55; (with_reducible refine (num_calls _ _ (by assumption)).mono ?_); rintro e w' ⟨rfl, ⟨nd, rfl⟩⟩)
    | (go_at_call 56; (with_reducible refine (good_calls _ _).mono ?_); rintro e w' ⟨rfl, ⟨nd, rfl⟩⟩)
    | (go_at_call 57; (with_reducible refine (blk_calls _ _).mono ?_); rintro e w' ⟨rfl, ⟨nd, rfl⟩⟩)
    | (go_at_call 31; (with_reducible refine (names_Right.calls rest e _ HE.out).mono ?_); rintro e w1 ⟨rfl, hb1⟩))
  refine bodyPost_ret (results_list (rs := [.tmp 2, .tmp 3, .tmp 4, .tmp 5]) rfl (by simp) (.tmp (.tmp (.tmp (.tmp .nil))))) rfl ?_
  exact ⟨rfl, by repeat (first | exact Below.refl _ _ | apply pw_below_drewN | apply below_drew1)⟩
set_option maxHeartbeats 8000000 in
set_option maxRecDepth 100000 in
theorem kind_z1 (s rest pre : ByteArray) (e : Int) (w : World) (h3 : 3 ≤ s.size) (hrest : s.extract 3 s.size = rest) (hpre : s.extract 0 3 = pre)
    (f0 : (num2 s == 0) = false) (f1 : (num2 s != 0) = true) (f2 : goodInoB (num2 s) = true) (f3 : (bt s 2 == 1) = false) (f4 : (bt s 2 != 1) = true) (f5 : (bt s 2 == 2) = false) (f6 : (bt s 2 != 2) = true) (f7 : (bt s 2 == 3) = false) (f8 : (bt s 2 != 3) = true) : Calls Try.prog 30 #[.string s] w fun e w' => e = .returned (.tuple #[.int .i64 0, .int .i64 0, .string ⟨#[]⟩, .int .i64 0]) ∧ Below w.heap.size w w' := by
  have h2 : 2 ≤ s.size := by omega
  have a1 : decide ((s.size : Int) < 3) = false := decide_eq_false (by omega)
  have a2 : decide (s.size < 3) = false := decide_eq_false (by omega)
  have b0 : (3 ≤ (s.size : Int)) = True := eq_true (by omega)
  have b1 : decide (3 ≤ (s.size : Int)) = true := decide_eq_true (by omega)
  have b2 : (2 < s.size) = True := eq_true (by omega)
  have b3 : (2 < (s.size : Int)) = True := eq_true (by omega)
  have hx : ∀ h : 2 < s.size, ((s[2]'h).toNat : Int) = bt s 2 := bt_at s 2
  obtain ⟨r0, r1⟩ := bt_range s 2
  go_enter Try.func30, Try.ntmps30
  go_wp2_with (first
    | (go_at_call 55; (with_reducible refine (num_calls _ _ (by assumption)).mono ?_); rintro e w' ⟨rfl, ⟨nd, rfl⟩⟩)
    | (go_at_call 56; (with_reducible refine (good_calls _ _).mono ?_); rintro e w' ⟨rfl, ⟨nd, rfl⟩⟩)
    | (go_at_call 57; (with_reducible refine (blk_calls _ _).mono ?_); rintro e w' ⟨rfl, ⟨nd, rfl⟩⟩)
    | (go_at_call 31; (with_reducible refine (names_Right.calls rest e _ HE.out).mono ?_); rintro e w1 ⟨rfl, hb1⟩))
  go_quiet ((go_at_call 55; exact Calls.quiet_of ((num_calls _ _ (by assumption)).mono fun _ _ ⟨he_, hd_⟩ => ⟨he_, hd_.out⟩)))
  go_wp2_with (first
    | (go_at_call 55; (with_reducible refine (num_calls _ _ (by assumption)).mono ?_); rintro e w' ⟨rfl, ⟨nd, rfl⟩⟩)
    | (go_at_call 56; (with_reducible refine (good_calls _ _).mono ?_); rintro e w' ⟨rfl, ⟨nd, rfl⟩⟩)
    | (go_at_call 57; (with_reducible refine (blk_calls _ _).mono ?_); rintro e w' ⟨rfl, ⟨nd, rfl⟩⟩)
    | (go_at_call 31; (with_reducible refine (names_Right.calls rest e _ HE.out).mono ?_); rintro e w1 ⟨rfl, hb1⟩))
  refine bodyPost_ret (results_list (rs := [.tmp 2, .tmp 3, .tmp 4, .tmp 5]) rfl (by simp) (.tmp (.tmp (.tmp (.tmp .nil))))) rfl ?_
  exact ⟨rfl, by repeat (first | exact Below.refl _ _ | apply pw_below_drewN | apply below_drew1)⟩

/-- What a key is: a kind, a number, a name, a block's number. e: what names.Right says of what stands behind the third byte. -/
def kindK (orph : Bool) (e : Int) (n b : Int) (rest : ByteArray) : Int × Int × ByteArray × Int :=
  if orph && (rest.size == 2) && goodInoB (num2 rest) then (4, num2 rest, ⟨#[]⟩, 0)
  else if goodInoB n = false then (0, 0, ⟨#[]⟩, 0)
  else if b = 1 then (if rest.size = 0 then (1, n, ⟨#[]⟩, 0) else (0, 0, ⟨#[]⟩, 0))
  else if b = 2 then (if e = 0 then (2, n, rest, 0) else (0, 0, ⟨#[]⟩, 0))
  else if b = 3 then (if rest.size = 2 ∧ goodBlockB (num2 rest) = true then (3, n, ⟨#[]⟩, num2 rest) else (0, 0, ⟨#[]⟩, 0))
  else (0, 0, ⟨#[]⟩, 0)
theorem goodInoB_zero : goodInoB 0 = false := by decide
theorem empty_list (s : ByteArray) : (s.toList == ([] : List UInt8)) = decide (s.size = 0) := by
  rw [Lib.toList_data, Bool.eq_iff_iff]
  have : s.data.toList = [] ↔ s.size = 0 := by rw [← List.length_eq_zero_iff, Array.length_toList]; rfl
  simp only [beq_iff_eq, List.isEmpty_iff, decide_eq_true_eq]
  exact this
theorem isEmpty_eq (s : ByteArray) : s.toList.isEmpty = decide (s.size = 0) := by
  rw [Lib.toList_data, Bool.eq_iff_iff]
  have : s.data.toList = [] ↔ s.size = 0 := by rw [← List.length_eq_zero_iff, Array.length_toList]; rfl
  simp only [beq_iff_eq, List.isEmpty_iff, decide_eq_true_eq]
  exact this
def node_Kind.f (s : ByteArray) : Option (Int × Int × ByteArray × Int) :=
  if s.size < 3 then some (0, 0, ⟨#[]⟩, 0) else (names_Right.f (s.extract 3 s.size)).bind fun e => some (kindK ((num2 s == 0) && ((s.extract 0 3).toList == ([0, 0, 4] : List UInt8))) e (num2 s) (bt s 2) (s.extract 3 s.size))
theorem node_Kind.calls (s : ByteArray) (r1 : Int) (r2 : Int) (r3 : ByteArray) (r4 : Int) (w : World) (h : node_Kind.f s = some (r1, r2, r3, r4)) :
    Calls Try.prog 30 #[.string s] w fun e w' => e = .returned (.tuple #[.int .i64 r1, .int .i64 r2, .string r3, .int .i64 r4]) ∧ Below w.heap.size w w' := by
  unfold node_Kind.f at h
  by_cases h3 : s.size < 3
  · rw [if_pos h3] at h
    simp only [Option.some.injEq, Prod.mk.injEq] at h
    obtain ⟨rfl, rfl, rfl, rfl⟩ := h
    exact kind_s s w h3
  rw [if_neg h3] at h
  obtain ⟨e, he, h⟩ := Option.bind_eq_some_iff.mp h
  replace h := Option.some.inj h
  obtain ⟨rest, hrest⟩ : ∃ rest, s.extract 3 s.size = rest := ⟨_, rfl⟩
  obtain ⟨pre, hpre⟩ : ∃ pre, s.extract 0 3 = pre := ⟨_, rfl⟩
  rw [hrest] at he
  simp only [hrest, hpre] at h
  have h3' : 3 ≤ s.size := by omega
  have hB : ∀ (a b : Int), a = b → (a == b) = true ∧ (a != b) = false := fun a b h => by subst h; simp
  have hN : ∀ (a b : Int), ¬ a = b → (a == b) = false ∧ (a != b) = true := fun a b h => by simp [h]
  have hBn : ∀ (a b : Nat), a = b → (a == b) = true ∧ (a != b) = false := fun a b h => by subst h; simp
  have hNn : ∀ (a b : Nat), ¬ a = b → (a == b) = false ∧ (a != b) = true := fun a b h => by simp [h]
  by_cases hn : num2 s = 0
  · have hg : goodInoB (num2 s) = false := by rw [hn]; rfl
    by_cases ho : pre.toList = ([0, 0, 4] : List UInt8)
    · by_cases h2 : rest.size = 2
      · have h2' : (rest.size : Int) = 2 := by omega
        by_cases hg2 : goodInoB (num2 rest) = true
        · simp [kindK, hn, ho, h2, hg2] at h
          obtain ⟨rfl, rfl, rfl, rfl⟩ := h
          exact kind_o1 s rest pre 0 w h3' hrest hpre (by omega) (hB _ _ hn).1 (hB _ _ hn).2 (by simp [ho]) (by simp [ho]) (hB _ _ h2').1 (hB _ _ h2').2 (hBn _ _ h2).1 (hBn _ _ h2).2 hg2
        · replace hg2 : goodInoB (num2 rest) = false := Bool.eq_false_iff.mpr hg2
          simp [kindK, hn, ho, h2, hg2, goodInoB_zero] at h
          obtain ⟨rfl, rfl, rfl, rfl⟩ := h
          exact kind_o2 s rest pre 0 w h3' hrest hpre (by omega) (hB _ _ hn).1 (hB _ _ hn).2 hg (by simp [ho]) (by simp [ho]) (hB _ _ h2').1 (hB _ _ h2').2 (hBn _ _ h2).1 (hBn _ _ h2).2 hg2
      · have h2' : ¬ (rest.size : Int) = 2 := by omega
        simp [kindK, hn, ho, h2, goodInoB_zero] at h
        obtain ⟨rfl, rfl, rfl, rfl⟩ := h
        exact kind_o3 s rest pre 0 w h3' hrest hpre (hB _ _ hn).1 (hB _ _ hn).2 hg (by simp [ho]) (by simp [ho]) (hN _ _ h2').1 (hN _ _ h2').2 (hNn _ _ h2).1 (hNn _ _ h2).2
    · simp [kindK, hn, ho, goodInoB_zero] at h
      obtain ⟨rfl, rfl, rfl, rfl⟩ := h
      exact kind_o4 s rest pre 0 w h3' hrest hpre (hB _ _ hn).1 (hB _ _ hn).2 hg (by simp [ho]) (by simp [ho])
  by_cases hg : goodInoB (num2 s) = true
  rotate_left
  · replace hg : goodInoB (num2 s) = false := Bool.eq_false_iff.mpr hg
    simp [kindK, hn, hg] at h
    obtain ⟨rfl, rfl, rfl, rfl⟩ := h
    exact kind_b1 s rest pre 0 w h3' hrest hpre (hN _ _ hn).1 (hN _ _ hn).2 hg
  · by_cases hb1 : bt s 2 = 1
    · have hb2 : ¬ bt s 2 = 2 := by omega
      have hb3 : ¬ bt s 2 = 3 := by omega
      by_cases hz : rest.size = 0
      · simp only [kindK, hn, hg, hb1, hz] at h
        simp [hn] at h
        obtain ⟨rfl, rfl, rfl, rfl⟩ := h
        exact kind_i1 s rest pre 0 w h3' hrest hpre (hN _ _ hn).1 (hN _ _ hn).2 hg (hB _ _ hb1).1 (hB _ _ hb1).2 (by rw [empty_list]; simp [hz]) (by rw [bne, empty_list]; simp [hz]) (by rw [isEmpty_eq]; simp [hz]) (by rw [isEmpty_eq]; simp [hz])
      · simp only [kindK, hn, hg, hb1, hz] at h
        simp [hn] at h
        obtain ⟨rfl, rfl, rfl, rfl⟩ := h
        exact kind_i2 s rest pre 0 w h3' hrest hpre (hN _ _ hn).1 (hN _ _ hn).2 hg (hB _ _ hb1).1 (hB _ _ hb1).2 (hN _ _ hb2).1 (hN _ _ hb2).2 (hN _ _ hb3).1 (hN _ _ hb3).2 (by rw [empty_list]; simp [hz]) (by rw [bne, empty_list]; simp [hz]) (by rw [isEmpty_eq]; simp [hz]) (by rw [isEmpty_eq]; simp [hz])
    by_cases hb2 : bt s 2 = 2
    · have hb3 : ¬ bt s 2 = 3 := by omega
      by_cases h0 : e = 0
      · simp [kindK, hn, hg, hb2, h0] at h
        obtain ⟨rfl, rfl, rfl, rfl⟩ := h
        exact kind_e1 s rest pre e w h3' hrest hpre he (hN _ _ hn).1 (hN _ _ hn).2 hg (hN _ _ hb1).1 (hN _ _ hb1).2 (hB _ _ hb2).1 (hB _ _ hb2).2 (hB _ _ h0).1 (hB _ _ h0).2
      · simp [kindK, hn, hg, hb2, h0] at h
        obtain ⟨rfl, rfl, rfl, rfl⟩ := h
        exact kind_e2 s rest pre e w h3' hrest hpre he (hN _ _ hn).1 (hN _ _ hn).2 hg (hN _ _ hb1).1 (hN _ _ hb1).2 (hB _ _ hb2).1 (hB _ _ hb2).2 (hN _ _ hb3).1 (hN _ _ hb3).2 (hN _ _ h0).1 (hN _ _ h0).2
    by_cases hb3 : bt s 2 = 3
    · by_cases h2 : rest.size = 2
      · have h2' : (rest.size : Int) = 2 := by omega
        by_cases hk : goodBlockB (num2 rest) = true
        · simp [kindK, hn, hg, hb3, h2, hk] at h
          obtain ⟨rfl, rfl, rfl, rfl⟩ := h
          exact kind_k1 s rest pre 0 w h3' hrest hpre (by omega) (hN _ _ hn).1 (hN _ _ hn).2 hg (hN _ _ hb1).1 (hN _ _ hb1).2 (hN _ _ hb2).1 (hN _ _ hb2).2 (hB _ _ hb3).1 (hB _ _ hb3).2 (hB _ _ h2').1 (hB _ _ h2').2 (hBn _ _ h2).1 (hBn _ _ h2).2 hk
        · replace hk : goodBlockB (num2 rest) = false := Bool.eq_false_iff.mpr hk
          simp [kindK, hn, hg, hb3, h2, hk] at h
          obtain ⟨rfl, rfl, rfl, rfl⟩ := h
          exact kind_k2 s rest pre 0 w h3' hrest hpre (by omega) (hN _ _ hn).1 (hN _ _ hn).2 hg (hN _ _ hb1).1 (hN _ _ hb1).2 (hN _ _ hb2).1 (hN _ _ hb2).2 (hB _ _ hb3).1 (hB _ _ hb3).2 (hB _ _ h2').1 (hB _ _ h2').2 (hBn _ _ h2).1 (hBn _ _ h2).2 hk
      · have h2' : ¬ (rest.size : Int) = 2 := by omega
        simp [kindK, hn, hg, hb3, h2] at h
        obtain ⟨rfl, rfl, rfl, rfl⟩ := h
        exact kind_k3 s rest pre 0 w h3' hrest hpre (hN _ _ hn).1 (hN _ _ hn).2 hg (hN _ _ hb1).1 (hN _ _ hb1).2 (hN _ _ hb2).1 (hN _ _ hb2).2 (hB _ _ hb3).1 (hB _ _ hb3).2 (hN _ _ h2').1 (hN _ _ h2').2 (hNn _ _ h2).1 (hNn _ _ h2).2
    simp [kindK, hn, hg, hb1, hb2, hb3] at h
    obtain ⟨rfl, rfl, rfl, rfl⟩ := h
    exact kind_z1 s rest pre 0 w h3' hrest hpre (hN _ _ hn).1 (hN _ _ hn).2 hg (hN _ _ hb1).1 (hN _ _ hb1).2 (hN _ _ hb2).1 (hN _ _ hb2).2 (hN _ _ hb3).1 (hN _ _ hb3).2
end Go.Proofs.Ytakchpeohmkpkaa.Q

namespace Go.Proofs.Ytakchpeohmkpkaa.Q
open Go.RowKit Go.Proofs.YtakchpeohmkpkaaW.PrintWords Go.Proofs.YtakchpeohmkpkaaW.PrintLast Go.Proofs.YtakchpeohmkpkaaW.PrintMore
set_option linter.unusedVariables false
set_option linter.unusedSimpArgs false

theorem in_calls (n m : Int) (r : Bool) (w : World) (h : (decide (0 ≤ n) && decide (n ≤ m)) = r) : Calls Try.prog 71 #[.int .i64 n, .int .i64 m] w fun e w' => e = .returned (.bool r) ∧ Drawn0 w w' := by
  subst h
  by_cases h0 : 0 ≤ n
  · by_cases h1 : n ≤ m
    · go_enter Try.func71, Try.ntmps71
      go_wp2
      go_ret
      exact ⟨by simp [h0, h1], by repeat (first | exact Drawn0.refl _ | apply Drawn0.step)⟩
    · go_enter Try.func71, Try.ntmps71
      go_wp2
      go_ret
      exact ⟨by simp [h0, h1], by repeat (first | exact Drawn0.refl _ | apply Drawn0.step)⟩
  · go_enter Try.func71, Try.ntmps71
    go_wp2
    go_ret
    exact ⟨by rw [show decide (0 ≤ n) = false from decide_eq_false (by omega)]; rfl, by repeat (first | exact Drawn0.refl _ | apply Drawn0.step)⟩
theorem goodIno_f (a : Int) (r : Bool) (h : (decide (1 ≤ a) && decide (a ≤ 4096)) = r) : node_goodIno.f a = some r := by
  subst h
  unfold node_goodIno.f
  by_cases h0 : a ≥ 1
  · rw [if_pos h0]; simp; omega
  · rw [if_neg h0]; simp; omega
theorem goodKind_f (a : Int) (r : Bool) (h : (decide (1 ≤ a) && decide (a ≤ 3)) = r) : node_goodKind.f a = some r := by
  subst h
  unfold node_goodKind.f
  by_cases h0 : a ≥ 1
  · rw [if_pos h0]; simp; omega
  · rw [if_neg h0]; simp; omega

def rightInode (a0 a1 a2 a3 a4 a5 a6 : Int) : Bool := (decide (1 ≤ a0) && decide (a0 ≤ 4096)) && (decide (1 ≤ a1) && decide (a1 ≤ 3)) && (decide (0 ≤ a2) && decide (a2 ≤ 511)) && (decide (0 ≤ a3) && decide (a3 ≤ 65535)) && (decide (0 ≤ a4) && decide (a4 ≤ 65535)) && (decide (0 ≤ a5) && decide (a5 ≤ 100)) && (decide (0 ≤ a6) && decide (a6 ≤ 16384))
def node_right.f (a0 a1 a2 a3 a4 a5 a6 : Int) : Option Bool := some (rightInode a0 a1 a2 a3 a4 a5 a6)
set_option maxHeartbeats 8000000 in
set_option maxRecDepth 100000 in
theorem right_0 (a0 a1 a2 a3 a4 a5 a6 : Int) (w : World) (h0 : (decide (1 ≤ a0) && decide (a0 ≤ 4096)) = false) : Calls Try.prog 59 #[.agg #[.int .i64 a0, .int .i64 a1, .int .i64 a2, .int .i64 a3, .int .i64 a4, .int .i64 a5, .int .i64 a6]] w fun e w' => e = .returned (.bool false) ∧ Below w.heap.size w w' := by
  have hu52 := Try.underlying52
  have G0 := Aside0.mk (goodIno_f a0 _ h0)
  clear h0
  go_enter Try.func59, Try.ntmps59
  go_wp2_with (first
    | (go_at_call 56; (with_reducible refine (node_goodIno.calls a0 false _ G0.out).mono ?_); rintro e w' ⟨rfl, ⟨nd0, rfl⟩⟩))
  go_ret
  refine ⟨?_, by repeat (first | exact (below_alloc (Below.refl _ _) _) | apply pw_below_drewN | apply below_drew1)⟩
  first | rfl | simp [*]
set_option maxHeartbeats 8000000 in
set_option maxRecDepth 100000 in
theorem right_1 (a0 a1 a2 a3 a4 a5 a6 : Int) (w : World) (h0 : (decide (1 ≤ a0) && decide (a0 ≤ 4096)) = true) (h1 : (decide (1 ≤ a1) && decide (a1 ≤ 3)) = false) : Calls Try.prog 59 #[.agg #[.int .i64 a0, .int .i64 a1, .int .i64 a2, .int .i64 a3, .int .i64 a4, .int .i64 a5, .int .i64 a6]] w fun e w' => e = .returned (.bool false) ∧ Below w.heap.size w w' := by
  have hu52 := Try.underlying52
  have G0 := Aside0.mk (goodIno_f a0 _ h0)
  have G1 := Aside0.mk (goodKind_f a1 _ h1)
  clear h0 h1
  go_enter Try.func59, Try.ntmps59
  go_wp2_with (first
    | (go_at_call 56; (with_reducible refine (node_goodIno.calls a0 true _ G0.out).mono ?_); rintro e w' ⟨rfl, ⟨nd0, rfl⟩⟩)
    | (go_at_call 64; (with_reducible refine (node_goodKind.calls a1 false _ G1.out).mono ?_); rintro e w' ⟨rfl, ⟨nd1, rfl⟩⟩))
  go_ret
  refine ⟨?_, by repeat (first | exact (below_alloc (Below.refl _ _) _) | apply pw_below_drewN | apply below_drew1)⟩
  first | rfl | simp [*]
set_option maxHeartbeats 8000000 in
set_option maxRecDepth 100000 in
theorem right_2 (a0 a1 a2 a3 a4 a5 a6 : Int) (w : World) (h0 : (decide (1 ≤ a0) && decide (a0 ≤ 4096)) = true) (h1 : (decide (1 ≤ a1) && decide (a1 ≤ 3)) = true) (h2 : (decide (0 ≤ a2) && decide (a2 ≤ 511)) = false) : Calls Try.prog 59 #[.agg #[.int .i64 a0, .int .i64 a1, .int .i64 a2, .int .i64 a3, .int .i64 a4, .int .i64 a5, .int .i64 a6]] w fun e w' => e = .returned (.bool false) ∧ Below w.heap.size w w' := by
  have hu52 := Try.underlying52
  have G0 := Aside0.mk (goodIno_f a0 _ h0)
  have G1 := Aside0.mk (goodKind_f a1 _ h1)
  have G2 := Aside0.mk h2
  clear h0 h1 h2
  go_enter Try.func59, Try.ntmps59
  go_wp2_with (first
    | (go_at_call 56; (with_reducible refine (node_goodIno.calls a0 true _ G0.out).mono ?_); rintro e w' ⟨rfl, ⟨nd0, rfl⟩⟩)
    | (go_at_call 64; (with_reducible refine (node_goodKind.calls a1 true _ G1.out).mono ?_); rintro e w' ⟨rfl, ⟨nd1, rfl⟩⟩)
    | (go_at_call 71; (with_reducible refine (in_calls a2 511 false _ G2.out).mono ?_); rintro e w' ⟨rfl, ⟨nd2, rfl⟩⟩))
  go_ret
  refine ⟨?_, by repeat (first | exact (below_alloc (Below.refl _ _) _) | apply pw_below_drewN | apply below_drew1)⟩
  first | rfl | simp [*]
set_option maxHeartbeats 8000000 in
set_option maxRecDepth 100000 in
theorem right_3 (a0 a1 a2 a3 a4 a5 a6 : Int) (w : World) (h0 : (decide (1 ≤ a0) && decide (a0 ≤ 4096)) = true) (h1 : (decide (1 ≤ a1) && decide (a1 ≤ 3)) = true) (h2 : (decide (0 ≤ a2) && decide (a2 ≤ 511)) = true) (h3 : (decide (0 ≤ a3) && decide (a3 ≤ 65535)) = false) : Calls Try.prog 59 #[.agg #[.int .i64 a0, .int .i64 a1, .int .i64 a2, .int .i64 a3, .int .i64 a4, .int .i64 a5, .int .i64 a6]] w fun e w' => e = .returned (.bool false) ∧ Below w.heap.size w w' := by
  have hu52 := Try.underlying52
  have G0 := Aside0.mk (goodIno_f a0 _ h0)
  have G1 := Aside0.mk (goodKind_f a1 _ h1)
  have G2 := Aside0.mk h2
  have G3 := Aside0.mk h3
  clear h0 h1 h2 h3
  go_enter Try.func59, Try.ntmps59
  go_wp2_with (first
    | (go_at_call 56; (with_reducible refine (node_goodIno.calls a0 true _ G0.out).mono ?_); rintro e w' ⟨rfl, ⟨nd0, rfl⟩⟩)
    | (go_at_call 64; (with_reducible refine (node_goodKind.calls a1 true _ G1.out).mono ?_); rintro e w' ⟨rfl, ⟨nd1, rfl⟩⟩)
    | (go_at_call 71; (with_reducible refine (in_calls a2 511 true _ G2.out).mono ?_); rintro e w' ⟨rfl, ⟨nd2, rfl⟩⟩)
    | (go_at_call 71; (with_reducible refine (in_calls a3 65535 false _ G3.out).mono ?_); rintro e w' ⟨rfl, ⟨nd3, rfl⟩⟩))
  go_ret
  refine ⟨?_, by repeat (first | exact (below_alloc (Below.refl _ _) _) | apply pw_below_drewN | apply below_drew1)⟩
  first | rfl | simp [*]
set_option maxHeartbeats 8000000 in
set_option maxRecDepth 100000 in
theorem right_4 (a0 a1 a2 a3 a4 a5 a6 : Int) (w : World) (h0 : (decide (1 ≤ a0) && decide (a0 ≤ 4096)) = true) (h1 : (decide (1 ≤ a1) && decide (a1 ≤ 3)) = true) (h2 : (decide (0 ≤ a2) && decide (a2 ≤ 511)) = true) (h3 : (decide (0 ≤ a3) && decide (a3 ≤ 65535)) = true) (h4 : (decide (0 ≤ a4) && decide (a4 ≤ 65535)) = false) : Calls Try.prog 59 #[.agg #[.int .i64 a0, .int .i64 a1, .int .i64 a2, .int .i64 a3, .int .i64 a4, .int .i64 a5, .int .i64 a6]] w fun e w' => e = .returned (.bool false) ∧ Below w.heap.size w w' := by
  have hu52 := Try.underlying52
  have G0 := Aside0.mk (goodIno_f a0 _ h0)
  have G1 := Aside0.mk (goodKind_f a1 _ h1)
  have G2 := Aside0.mk h2
  have G3 := Aside0.mk h3
  have G4 := Aside0.mk h4
  clear h0 h1 h2 h3 h4
  go_enter Try.func59, Try.ntmps59
  go_wp2_with (first
    | (go_at_call 56; (with_reducible refine (node_goodIno.calls a0 true _ G0.out).mono ?_); rintro e w' ⟨rfl, ⟨nd0, rfl⟩⟩)
    | (go_at_call 64; (with_reducible refine (node_goodKind.calls a1 true _ G1.out).mono ?_); rintro e w' ⟨rfl, ⟨nd1, rfl⟩⟩)
    | (go_at_call 71; (with_reducible refine (in_calls a2 511 true _ G2.out).mono ?_); rintro e w' ⟨rfl, ⟨nd2, rfl⟩⟩)
    | (go_at_call 71; (with_reducible refine (in_calls a3 65535 true _ G3.out).mono ?_); rintro e w' ⟨rfl, ⟨nd3, rfl⟩⟩)
    | (go_at_call 71; (with_reducible refine (in_calls a4 65535 false _ G4.out).mono ?_); rintro e w' ⟨rfl, ⟨nd4, rfl⟩⟩))
  go_ret
  refine ⟨?_, by repeat (first | exact (below_alloc (Below.refl _ _) _) | apply pw_below_drewN | apply below_drew1)⟩
  first | rfl | simp [*]
set_option maxHeartbeats 8000000 in
set_option maxRecDepth 100000 in
theorem right_5 (a0 a1 a2 a3 a4 a5 a6 : Int) (w : World) (h0 : (decide (1 ≤ a0) && decide (a0 ≤ 4096)) = true) (h1 : (decide (1 ≤ a1) && decide (a1 ≤ 3)) = true) (h2 : (decide (0 ≤ a2) && decide (a2 ≤ 511)) = true) (h3 : (decide (0 ≤ a3) && decide (a3 ≤ 65535)) = true) (h4 : (decide (0 ≤ a4) && decide (a4 ≤ 65535)) = true) (h5 : (decide (0 ≤ a5) && decide (a5 ≤ 100)) = false) : Calls Try.prog 59 #[.agg #[.int .i64 a0, .int .i64 a1, .int .i64 a2, .int .i64 a3, .int .i64 a4, .int .i64 a5, .int .i64 a6]] w fun e w' => e = .returned (.bool false) ∧ Below w.heap.size w w' := by
  have hu52 := Try.underlying52
  have G0 := Aside0.mk (goodIno_f a0 _ h0)
  have G1 := Aside0.mk (goodKind_f a1 _ h1)
  have G2 := Aside0.mk h2
  have G3 := Aside0.mk h3
  have G4 := Aside0.mk h4
  have G5 := Aside0.mk h5
  clear h0 h1 h2 h3 h4 h5
  go_enter Try.func59, Try.ntmps59
  go_wp2_with (first
    | (go_at_call 56; (with_reducible refine (node_goodIno.calls a0 true _ G0.out).mono ?_); rintro e w' ⟨rfl, ⟨nd0, rfl⟩⟩)
    | (go_at_call 64; (with_reducible refine (node_goodKind.calls a1 true _ G1.out).mono ?_); rintro e w' ⟨rfl, ⟨nd1, rfl⟩⟩)
    | (go_at_call 71; (with_reducible refine (in_calls a2 511 true _ G2.out).mono ?_); rintro e w' ⟨rfl, ⟨nd2, rfl⟩⟩)
    | (go_at_call 71; (with_reducible refine (in_calls a3 65535 true _ G3.out).mono ?_); rintro e w' ⟨rfl, ⟨nd3, rfl⟩⟩)
    | (go_at_call 71; (with_reducible refine (in_calls a4 65535 true _ G4.out).mono ?_); rintro e w' ⟨rfl, ⟨nd4, rfl⟩⟩)
    | (go_at_call 71; (with_reducible refine (in_calls a5 100 false _ G5.out).mono ?_); rintro e w' ⟨rfl, ⟨nd5, rfl⟩⟩))
  go_ret
  refine ⟨?_, by repeat (first | exact (below_alloc (Below.refl _ _) _) | apply pw_below_drewN | apply below_drew1)⟩
  first | rfl | simp [*]
set_option maxHeartbeats 8000000 in
set_option maxRecDepth 100000 in
theorem right_6 (a0 a1 a2 a3 a4 a5 a6 : Int) (w : World) (h0 : (decide (1 ≤ a0) && decide (a0 ≤ 4096)) = true) (h1 : (decide (1 ≤ a1) && decide (a1 ≤ 3)) = true) (h2 : (decide (0 ≤ a2) && decide (a2 ≤ 511)) = true) (h3 : (decide (0 ≤ a3) && decide (a3 ≤ 65535)) = true) (h4 : (decide (0 ≤ a4) && decide (a4 ≤ 65535)) = true) (h5 : (decide (0 ≤ a5) && decide (a5 ≤ 100)) = true) (h6 : (decide (0 ≤ a6) && decide (a6 ≤ 16384)) = false) : Calls Try.prog 59 #[.agg #[.int .i64 a0, .int .i64 a1, .int .i64 a2, .int .i64 a3, .int .i64 a4, .int .i64 a5, .int .i64 a6]] w fun e w' => e = .returned (.bool false) ∧ Below w.heap.size w w' := by
  have hu52 := Try.underlying52
  have G0 := Aside0.mk (goodIno_f a0 _ h0)
  have G1 := Aside0.mk (goodKind_f a1 _ h1)
  have G2 := Aside0.mk h2
  have G3 := Aside0.mk h3
  have G4 := Aside0.mk h4
  have G5 := Aside0.mk h5
  have G6 := Aside0.mk h6
  clear h0 h1 h2 h3 h4 h5 h6
  go_enter Try.func59, Try.ntmps59
  go_wp2_with (first
    | (go_at_call 56; (with_reducible refine (node_goodIno.calls a0 true _ G0.out).mono ?_); rintro e w' ⟨rfl, ⟨nd0, rfl⟩⟩)
    | (go_at_call 64; (with_reducible refine (node_goodKind.calls a1 true _ G1.out).mono ?_); rintro e w' ⟨rfl, ⟨nd1, rfl⟩⟩)
    | (go_at_call 71; (with_reducible refine (in_calls a2 511 true _ G2.out).mono ?_); rintro e w' ⟨rfl, ⟨nd2, rfl⟩⟩)
    | (go_at_call 71; (with_reducible refine (in_calls a3 65535 true _ G3.out).mono ?_); rintro e w' ⟨rfl, ⟨nd3, rfl⟩⟩)
    | (go_at_call 71; (with_reducible refine (in_calls a4 65535 true _ G4.out).mono ?_); rintro e w' ⟨rfl, ⟨nd4, rfl⟩⟩)
    | (go_at_call 71; (with_reducible refine (in_calls a5 100 true _ G5.out).mono ?_); rintro e w' ⟨rfl, ⟨nd5, rfl⟩⟩)
    | (go_at_call 71; (with_reducible refine (in_calls a6 16384 false _ G6.out).mono ?_); rintro e w' ⟨rfl, ⟨nd6, rfl⟩⟩))
  go_ret
  refine ⟨?_, by repeat (first | exact (below_alloc (Below.refl _ _) _) | apply pw_below_drewN | apply below_drew1)⟩
  first | rfl | simp [*]
set_option maxHeartbeats 8000000 in
set_option maxRecDepth 100000 in
theorem right_7 (a0 a1 a2 a3 a4 a5 a6 : Int) (w : World) (h0 : (decide (1 ≤ a0) && decide (a0 ≤ 4096)) = true) (h1 : (decide (1 ≤ a1) && decide (a1 ≤ 3)) = true) (h2 : (decide (0 ≤ a2) && decide (a2 ≤ 511)) = true) (h3 : (decide (0 ≤ a3) && decide (a3 ≤ 65535)) = true) (h4 : (decide (0 ≤ a4) && decide (a4 ≤ 65535)) = true) (h5 : (decide (0 ≤ a5) && decide (a5 ≤ 100)) = true) (h6 : (decide (0 ≤ a6) && decide (a6 ≤ 16384)) = true) : Calls Try.prog 59 #[.agg #[.int .i64 a0, .int .i64 a1, .int .i64 a2, .int .i64 a3, .int .i64 a4, .int .i64 a5, .int .i64 a6]] w fun e w' => e = .returned (.bool true) ∧ Below w.heap.size w w' := by
  have hu52 := Try.underlying52
  have G0 := Aside0.mk (goodIno_f a0 _ h0)
  have G1 := Aside0.mk (goodKind_f a1 _ h1)
  have G2 := Aside0.mk h2
  have G3 := Aside0.mk h3
  have G4 := Aside0.mk h4
  have G5 := Aside0.mk h5
  have G6 := Aside0.mk h6
  clear h0 h1 h2 h3 h4 h5 h6
  go_enter Try.func59, Try.ntmps59
  go_wp2_with (first
    | (go_at_call 56; (with_reducible refine (node_goodIno.calls a0 true _ G0.out).mono ?_); rintro e w' ⟨rfl, ⟨nd0, rfl⟩⟩)
    | (go_at_call 64; (with_reducible refine (node_goodKind.calls a1 true _ G1.out).mono ?_); rintro e w' ⟨rfl, ⟨nd1, rfl⟩⟩)
    | (go_at_call 71; (with_reducible refine (in_calls a2 511 true _ G2.out).mono ?_); rintro e w' ⟨rfl, ⟨nd2, rfl⟩⟩)
    | (go_at_call 71; (with_reducible refine (in_calls a3 65535 true _ G3.out).mono ?_); rintro e w' ⟨rfl, ⟨nd3, rfl⟩⟩)
    | (go_at_call 71; (with_reducible refine (in_calls a4 65535 true _ G4.out).mono ?_); rintro e w' ⟨rfl, ⟨nd4, rfl⟩⟩)
    | (go_at_call 71; (with_reducible refine (in_calls a5 100 true _ G5.out).mono ?_); rintro e w' ⟨rfl, ⟨nd5, rfl⟩⟩)
    | (go_at_call 71; (with_reducible refine (in_calls a6 16384 true _ G6.out).mono ?_); rintro e w' ⟨rfl, ⟨nd6, rfl⟩⟩))
  go_ret
  refine ⟨?_, by repeat (first | exact (below_alloc (Below.refl _ _) _) | apply pw_below_drewN | apply below_drew1)⟩
  first | rfl | simp [*]
theorem node_right.calls (a0 a1 a2 a3 a4 a5 a6 : Int) (r : Bool) (w : World) (h : node_right.f a0 a1 a2 a3 a4 a5 a6 = some r) : Calls Try.prog 59 #[.agg #[.int .i64 a0, .int .i64 a1, .int .i64 a2, .int .i64 a3, .int .i64 a4, .int .i64 a5, .int .i64 a6]] w fun e w' => e = .returned (.bool r) ∧ Below w.heap.size w w' := by
  cases Option.some.inj h
  cases h0 : (decide (1 ≤ a0) && decide (a0 ≤ 4096))
  · simpa [rightInode, h0] using right_0 a0 a1 a2 a3 a4 a5 a6 w h0
  cases h1 : (decide (1 ≤ a1) && decide (a1 ≤ 3))
  · simpa [rightInode, h0, h1] using right_1 a0 a1 a2 a3 a4 a5 a6 w h0 h1
  cases h2 : (decide (0 ≤ a2) && decide (a2 ≤ 511))
  · simpa [rightInode, h0, h1, h2] using right_2 a0 a1 a2 a3 a4 a5 a6 w h0 h1 h2
  cases h3 : (decide (0 ≤ a3) && decide (a3 ≤ 65535))
  · simpa [rightInode, h0, h1, h2, h3] using right_3 a0 a1 a2 a3 a4 a5 a6 w h0 h1 h2 h3
  cases h4 : (decide (0 ≤ a4) && decide (a4 ≤ 65535))
  · simpa [rightInode, h0, h1, h2, h3, h4] using right_4 a0 a1 a2 a3 a4 a5 a6 w h0 h1 h2 h3 h4
  cases h5 : (decide (0 ≤ a5) && decide (a5 ≤ 100))
  · simpa [rightInode, h0, h1, h2, h3, h4, h5] using right_5 a0 a1 a2 a3 a4 a5 a6 w h0 h1 h2 h3 h4 h5
  cases h6 : (decide (0 ≤ a6) && decide (a6 ≤ 16384))
  · simpa [rightInode, h0, h1, h2, h3, h4, h5, h6] using right_6 a0 a1 a2 a3 a4 a5 a6 w h0 h1 h2 h3 h4 h5 h6
  simpa [rightInode, h0, h1, h2, h3, h4, h5, h6] using right_7 a0 a1 a2 a3 a4 a5 a6 w h0 h1 h2 h3 h4 h5 h6
end Go.Proofs.Ytakchpeohmkpkaa.Q

namespace Go.Proofs.Ytakchpeohmkpkaa.Sep
open Go.RowKit Go.Proofs.YtakchpeohmkpkaaW.PrintWords Go.Proofs.YtakchpeohmkpkaaW.PrintLast
set_option linter.unusedVariables false
set_option linter.unusedSimpArgs false
theorem Holds.none {w0 w : World} {H : Frag} (h : Holds w0 w H) : Holds w0 w [] := h.sub (List.nil_sublist _)
theorem bytesOf_get (s : ByteArray) (j : Nat) (x : Int) (h : (bytesOf s)[j]? = some x) : j < s.size ∧ x = ((s.data.toList.getD j 0).toNat : Int) := by
  unfold bytesOf at h
  rw [List.getElem?_map] at h
  obtain ⟨b, hb, rfl⟩ := Option.map_eq_some_iff.1 h
  have hl := (List.getElem?_eq_some_iff.1 hb).1
  rw [data_length] at hl
  refine ⟨hl, ?_⟩
  rw [List.getD_eq_getElem?_getD, hb]
  rfl
section
variable {P : Program} {ops : Array Oper} {Q : Exit → Act → World → Prop} {rest : List Oper} {a : Act} {W w0 : World} {H : Frag} {d : Option Tmp} {tp : TypeId} {ps : String} {af : Array Edge} {gd : Option (Nat × Bool)}
theorem bytesWorld_holds (HH : Holds w0 W H) (e : TypeId) (s : ByteArray) : ∃ o, Holds w0 (Lib.bytesWorld W e s) ((W.heap.size, o) :: H) ∧ Src (Value.int .u8) w0 [(W.heap.size, o)] (some ⟨W.heap.size, 0, none⟩) (bytesOf s) := by
  have hold : ∀ x, x ∈ H → (Lib.bytesWorld W e s).heap[x.1]? = W.heap[x.1]? := fun x hx => Lib.bytesWorld_at_old W e s x.1 (HH.lt hx)
  refine ⟨.cells (Lib.bytesCells W e s) e ((Lib.bytesCells W e s).size, (Lib.bytesCells W e s).size + 1), ⟨?_, ?_, ?_, ?_⟩, ?_⟩
  · refine HH.below.trans ⟨?_, ?_, ?_, ?_, fun k hk => ?_⟩
    · simp [Lib.bytesWorld, World.freeze, World.alloc, World.drew, -World.alloc_eq, -World.drew_eq]
    · simp [Lib.bytesWorld, World.freeze, World.alloc, World.drew, -World.alloc_eq, -World.drew_eq]
    · simp [Lib.bytesWorld, World.freeze, World.alloc, World.drew, -World.alloc_eq, -World.drew_eq]
    · rw [Lib.bytesWorld_size]
      omega
    · exact Lib.bytesWorld_at_old W e s k (Nat.lt_of_lt_of_le hk HH.below.size)
  · intro x hx
    rcases List.mem_cons.1 hx with rfl | hx
    · exact Lib.bytesWorld_at_new W e s
    · rw [hold x hx]
      exact HH.has x hx
  · intro x hx
    rcases List.mem_cons.1 hx with rfl | hx
    · exact HH.below.size
    · exact HH.low x hx
  · simp only [List.map_cons, List.nodup_cons]
    refine ⟨fun hm => ?_, HH.nodup⟩
    obtain ⟨x, hx, he⟩ := List.mem_map.1 hm
    have := HH.lt hx
    omega
  · refine .inr ⟨_, 0, rfl, .inr ⟨(Lib.bytesCells W e s).toList, e, ((Lib.bytesCells W e s).size, (Lib.bytesCells W e s).size + 1), by simp [Cl], fun j x hx => ?_⟩⟩
    obtain ⟨hj, rfl⟩ := bytesOf_get s j x hx
    have hc := Lib.bytesWorld_cell W e s j hj
    simp only [World.cell?, Lib.bytesWorld_at_new] at hc
    simpa using hc
/-- []byte(s). -/
theorem conv_ (HH : Holds w0 W H) {src dst : TypeId} {x : Operand} {s : ByteArray} {e : TypeId} {v : Value} (hw : Region.wanted ⟨d, .convert src dst x, tp, ps, af, gd⟩ (yielded ops a.tmps) = true) (hev : a.eval x = v) (hv : v = .string s) (hs : P.underlying src = some .string) (hd : P.underlying dst = some (.slice e)) (he : P.underlying e = some (.int .u8))
    (k : ∀ b w1 o cap, Holds w0 w1 ((b, o) :: H) → Src (Value.int .u8) w0 [(b, o)] (some ⟨b, 0, none⟩) (bytesOf s) → (bytesOf s).length ≤ cap → wpList P ops Q rest (a.put d (.slice (some ⟨b, 0, none⟩) (bytesOf s).length cap)) w1) : wpList P ops Q (⟨d, .convert src dst x, tp, ps, af, gd⟩ :: rest) a W := by
  subst hev
  obtain ⟨o, h1, h2⟩ := bytesWorld_holds HH e s
  refine wpList_value hw (w1 := Lib.bytesWorld W e s) (v := .slice (some ⟨W.heap.size, 0, none⟩) (bytesOf s).length (grownCap W s.size 0 e)) ?_ (k _ _ o _ h1 h2 ?_)
  · unfold execOp
    simp [hv, Lib.run_convert_string_bytes W src dst e s hs hd he, bytesOf_length]
  · rw [bytesOf_length]
    exact grownCap_ge W s.size 0 e
end
end Go.Proofs.Ytakchpeohmkpkaa.Sep

namespace Go.Proofs.Ytakchpeohmkpkaa.Q
open Go.RowKit Go.Proofs.YtakchpeohmkpkaaW.PrintWords Go.Proofs.YtakchpeohmkpkaaW.PrintLast Go.Proofs.YtakchpeohmkpkaaW.PrintMore Go.Proofs.Ytakchpeohmkpkaa.Sep
set_option linter.unusedVariables false
set_option linter.unusedSimpArgs false
set_option maxHeartbeats 8000000 in
set_option maxRecDepth 100000 in
/-- (*reader).done -/
theorem done_calls (g : Nat) (A : Option Addr) (c at_ : Nat) (xs : List Int) (w0 w : World) (H H' : Frag) (HH : Holds w0 w H) (hm : (g, RdB A c xs at_) ∈ H) :
    Calls Try.prog 52 #[.pointer (some ⟨g, 0, none⟩)] w fun e w' => e = .returned (.bool ((at_ : Int) == (xs.length : Int))) ∧ Drawn0 w w' := by
  have c0 := HH.cell hm (i := 0) rfl
  have c1 := HH.cell hm (i := 1) rfl
  clear HH hm
  go_enter Try.func52, Try.ntmps52
  go_wp2
  go_quiet (fail)
  go_wp2
  go_ret
  exact ⟨by first | rfl | (simp; done), by repeat (first | exact Drawn0.refl _ | apply Drawn0.step)⟩
set_option maxHeartbeats 8000000 in
set_option maxRecDepth 100000 in
theorem parseInode_ok (k v : ByteArray) (g : Bool) (kd ino bl : Int) (nm : ByteArray) (w : World) (hk : node_Kind.f k = some (kd, ino, nm, bl)) (hv : v.size ≤ 281474976710656) (f0 : g = false) (f1 : (kd == 1) = true) (f2 : (kd != 1) = false) (f3 : ((((pos (bytesOf v) (pos (bytesOf v) (pos (bytesOf v) (pos (bytesOf v) (pos (bytesOf v) (pos (bytesOf v) 0 1) 2) 2) 2) 2) 4) : Nat) : Int) == ((bytesOf v).length : Int)) = true) (f4 : rightInode (ino) (leVal (nxt (bytesOf v) 0 1)) (leVal (nxt (bytesOf v) (pos (bytesOf v) 0 1) 2)) (leVal (nxt (bytesOf v) (pos (bytesOf v) (pos (bytesOf v) 0 1) 2) 2)) (leVal (nxt (bytesOf v) (pos (bytesOf v) (pos (bytesOf v) (pos (bytesOf v) 0 1) 2) 2) 2)) (leVal (nxt (bytesOf v) (pos (bytesOf v) (pos (bytesOf v) (pos (bytesOf v) (pos (bytesOf v) 0 1) 2) 2) 2) 2)) (leVal (nxt (bytesOf v) (pos (bytesOf v) (pos (bytesOf v) (pos (bytesOf v) (pos (bytesOf v) (pos (bytesOf v) 0 1) 2) 2) 2) 2) 4)) = true) :
    Calls Try.prog 34 #[.agg #[.string k, .string v, .bool g]] w fun e w' => e = .returned (.tuple #[.agg #[.int .i64 (ino), .int .i64 (leVal (nxt (bytesOf v) 0 1)), .int .i64 (leVal (nxt (bytesOf v) (pos (bytesOf v) 0 1) 2)), .int .i64 (leVal (nxt (bytesOf v) (pos (bytesOf v) (pos (bytesOf v) 0 1) 2) 2)), .int .i64 (leVal (nxt (bytesOf v) (pos (bytesOf v) (pos (bytesOf v) (pos (bytesOf v) 0 1) 2) 2) 2)), .int .i64 (leVal (nxt (bytesOf v) (pos (bytesOf v) (pos (bytesOf v) (pos (bytesOf v) (pos (bytesOf v) 0 1) 2) 2) 2) 2)), .int .i64 (leVal (nxt (bytesOf v) (pos (bytesOf v) (pos (bytesOf v) (pos (bytesOf v) (pos (bytesOf v) (pos (bytesOf v) 0 1) 2) 2) 2) 2) 4))], .bool true]) ∧ Below w.heap.size w w' := by
  try subst f0
  have HK := Aside0.mk hk
  have hby : Aside0 (Bytes (bytesOf v)) := Aside0.mk (bytes_of v)
  have HA := Aside0.mk (Holds.start w)
  clear hk
  have HR := Aside0.mk (show node_right.f (ino) (leVal (nxt (bytesOf v) 0 1)) (leVal (nxt (bytesOf v) (pos (bytesOf v) 0 1) 2)) (leVal (nxt (bytesOf v) (pos (bytesOf v) (pos (bytesOf v) 0 1) 2) 2)) (leVal (nxt (bytesOf v) (pos (bytesOf v) (pos (bytesOf v) (pos (bytesOf v) 0 1) 2) 2) 2)) (leVal (nxt (bytesOf v) (pos (bytesOf v) (pos (bytesOf v) (pos (bytesOf v) (pos (bytesOf v) 0 1) 2) 2) 2) 2)) (leVal (nxt (bytesOf v) (pos (bytesOf v) (pos (bytesOf v) (pos (bytesOf v) (pos (bytesOf v) (pos (bytesOf v) 0 1) 2) 2) 2) 2) 4)) = some true by unfold node_right.f; rw [f4])
  go_enter Try.func34, Try.ntmps34
  go_wp2_with (first
    | ((with_reducible apply load1_); (case HH => first | exact HA.out | exact HA.out.any rfl rfl rfl rfl); (case ht => rfl); (case hx => rfl); (case hw => rfl); (case hm => repeat (first | exact List.Mem.head _ | refine List.Mem.tail _ ?_)); (case hv => exact rfl); simp only [Act.put, List.setIfInBounds_toArray, List.set_cons_zero, List.set_cons_succ])
    | ((with_reducible apply loadN_ (n := 7)); (case HH => first | exact HA.out | exact HA.out.any rfl rfl rfl rfl); (case ht => rfl); (case hn => decide +kernel); (case hx => rfl); (case hw => rfl); (case hm => repeat (first | exact List.Mem.head _ | refine List.Mem.tail _ ?_)); (case hv => first | (simp only [List.drop_succ_cons, List.drop_zero, List.take_succ_cons, List.take_zero]; rfl) | rfl); (case hl => rfl); simp only [Act.put, List.setIfInBounds_toArray, List.set_cons_zero, List.set_cons_succ])
    | ((with_reducible apply box_); (case HH => first | exact HA.out | exact HA.out.any rfl rfl rfl rfl); (case hw => rfl); (case hev => conv => lhs; whnf); (case hy => rfl); intro bx w1 HB_; simp only [Act.put, List.setIfInBounds_toArray, List.set_cons_zero, List.set_cons_succ]; clear HA; have HA := Aside0.mk HB_; clear HB_)
    | ((with_reducible apply alloc_ (z := .agg #[.int .i64 0, .int .i64 0, .int .i64 0, .int .i64 0, .int .i64 0, .int .i64 0, .int .i64 0])); (case HH => first | exact HA.out | exact HA.out.any rfl rfl rfl rfl); (case hw => rfl); (case hz => kernel_rfl); (case hx => rfl); intro bx w1 HB_; simp only [Act.put, List.setIfInBounds_toArray, List.set_cons_zero, List.set_cons_succ]; clear HA; have HA := Aside0.mk HB_; clear HB_)
    | ((with_reducible apply store_); (case HH => first | exact HA.out | exact HA.out.any rfl rfl rfl rfl); (case hw => rfl); (case hx => rfl); (case hev => conv => lhs; whnf); (case hy => rfl); (case hm => repeat (first | exact Holds.At.here | apply Holds.At.there)); (case hl => rfl); (case hn => kernel_rfl); (case h1 => simp [Value.oneCell']); (case hi => simp); intro w1 HB_; simp only [splice, List.set_cons_zero, List.set_cons_succ] at HB_; clear HA; have HA := Aside0.mk HB_; clear HB_)
    | (go_at_call 30; (with_reducible refine (node_Kind.calls k kd ino nm bl _ HK.out).mono ?_); rintro e w1 ⟨rfl, hb_⟩; have HB_ := HA.out.call1 hb_ rfl rfl rfl rfl; clear hb_; clear HA; have HA := Aside0.mk HB_; clear HB_)
    | ((with_reducible apply conv_); (case HH => first | exact HA.out | exact HA.out.any rfl rfl rfl rfl); (case hw => rfl); (case hev => conv => lhs; whnf); (case hv => rfl); (case hs => exact Try.underlying9); (case hd => exact Try.underlying34); (case he => exact Try.underlying5); intro bs w1 obs capbs HB_ HSbs hcapbs; have HSbs := Aside0.mk HSbs; have hcapbs := Aside0.mk hcapbs; simp only [Act.put, List.setIfInBounds_toArray, List.set_cons_zero, List.set_cons_succ]; clear HA; have HA := Aside0.mk HB_; clear HB_)
    | (go_at_call 50; (with_reducible apply Calls.mono); (case h => go_loud (exact number_at (by first | exact HA.out | exact HA.out.any rfl rfl rfl rfl) (by repeat (first | exact Holds.At.here | apply Holds.At.there)) (by rw [bytesOf_length]; exact hv) hcapbs.out (by first | exact pos_le _ _ _ | exact Nat.zero_le _ | omega) (by decide) (HSbs.out.mono (by simp)) hby.out)); rintro e w1 ⟨rfl, HB_⟩; clear HA; have HA := Aside0.mk HB_; clear HB_)
    | (go_at_call 52; (with_reducible apply Calls.mono); (case h => exact done_calls _ _ _ _ (bytesOf v) w _ _ [] (by first | exact HA.out | exact HA.out.any rfl rfl rfl rfl) (by repeat (first | exact List.Mem.head _ | refine List.Mem.tail _ ?_))); rintro e w' ⟨rfl, ⟨nd, rfl⟩⟩)
    | (go_at_call 59; (with_reducible refine (node_right.calls (ino) (leVal (nxt (bytesOf v) 0 1)) (leVal (nxt (bytesOf v) (pos (bytesOf v) 0 1) 2)) (leVal (nxt (bytesOf v) (pos (bytesOf v) (pos (bytesOf v) 0 1) 2) 2)) (leVal (nxt (bytesOf v) (pos (bytesOf v) (pos (bytesOf v) (pos (bytesOf v) 0 1) 2) 2) 2)) (leVal (nxt (bytesOf v) (pos (bytesOf v) (pos (bytesOf v) (pos (bytesOf v) (pos (bytesOf v) 0 1) 2) 2) 2) 2)) (leVal (nxt (bytesOf v) (pos (bytesOf v) (pos (bytesOf v) (pos (bytesOf v) (pos (bytesOf v) (pos (bytesOf v) 0 1) 2) 2) 2) 2) 4)) _ _ HR.out).mono ?_); rintro e w1 ⟨rfl, hb_⟩; have HB_ := HA.out.call1 hb_ rfl rfl rfl rfl; clear hb_; clear HA; have HA := Aside0.mk HB_; clear HB_))
  (apply end_list [.cell 2 52, .tmp 3]; (case hres => rfl); (case hd => rfl); (case hvs => apply vcell (by first | exact HA.out | exact HA.out.any rfl rfl rfl rfl); (case hp => rfl); (case hm => repeat (first | exact List.Mem.head _ | refine List.Mem.tail _ ?_)); (case hag => rfl); (case hi => kernel_rfl); (case hvs => apply Vals.tmp; exact .nil)); (case hl => simp); (case hR => exact ⟨rfl, HA.out.below⟩))
set_option maxHeartbeats 8000000 in
set_option maxRecDepth 100000 in
theorem parseInode_g (k v : ByteArray) (g : Bool) (kd ino bl : Int) (nm : ByteArray) (w : World) (hk : node_Kind.f k = some (kd, ino, nm, bl)) (hv : v.size ≤ 281474976710656) (f0 : g = true) :
    Calls Try.prog 34 #[.agg #[.string k, .string v, .bool g]] w fun e w' => e = .returned (.tuple #[.agg #[.int .i64 (0), .int .i64 (0), .int .i64 (0), .int .i64 (0), .int .i64 (0), .int .i64 (0), .int .i64 (0)], .bool false]) ∧ Below w.heap.size w w' := by
  try subst f0
  have HK := Aside0.mk hk
  have hby : Aside0 (Bytes (bytesOf v)) := Aside0.mk (bytes_of v)
  have HA := Aside0.mk (Holds.start w)
  clear hk
  go_enter Try.func34, Try.ntmps34
  go_wp2_with (first
    | ((with_reducible apply load1_); (case HH => first | exact HA.out | exact HA.out.any rfl rfl rfl rfl); (case ht => rfl); (case hx => rfl); (case hw => rfl); (case hm => repeat (first | exact List.Mem.head _ | refine List.Mem.tail _ ?_)); (case hv => exact rfl); simp only [Act.put, List.setIfInBounds_toArray, List.set_cons_zero, List.set_cons_succ])
    | ((with_reducible apply loadN_ (n := 7)); (case HH => first | exact HA.out | exact HA.out.any rfl rfl rfl rfl); (case ht => rfl); (case hn => decide +kernel); (case hx => rfl); (case hw => rfl); (case hm => repeat (first | exact List.Mem.head _ | refine List.Mem.tail _ ?_)); (case hv => first | (simp only [List.drop_succ_cons, List.drop_zero, List.take_succ_cons, List.take_zero]; rfl) | rfl); (case hl => rfl); simp only [Act.put, List.setIfInBounds_toArray, List.set_cons_zero, List.set_cons_succ])
    | ((with_reducible apply box_); (case HH => first | exact HA.out | exact HA.out.any rfl rfl rfl rfl); (case hw => rfl); (case hev => conv => lhs; whnf); (case hy => rfl); intro bx w1 HB_; simp only [Act.put, List.setIfInBounds_toArray, List.set_cons_zero, List.set_cons_succ]; clear HA; have HA := Aside0.mk HB_; clear HB_)
    | ((with_reducible apply alloc_ (z := .agg #[.int .i64 0, .int .i64 0, .int .i64 0, .int .i64 0, .int .i64 0, .int .i64 0, .int .i64 0])); (case HH => first | exact HA.out | exact HA.out.any rfl rfl rfl rfl); (case hw => rfl); (case hz => kernel_rfl); (case hx => rfl); intro bx w1 HB_; simp only [Act.put, List.setIfInBounds_toArray, List.set_cons_zero, List.set_cons_succ]; clear HA; have HA := Aside0.mk HB_; clear HB_)
    | ((with_reducible apply store_); (case HH => first | exact HA.out | exact HA.out.any rfl rfl rfl rfl); (case hw => rfl); (case hx => rfl); (case hev => conv => lhs; whnf); (case hy => rfl); (case hm => repeat (first | exact Holds.At.here | apply Holds.At.there)); (case hl => rfl); (case hn => kernel_rfl); (case h1 => simp [Value.oneCell']); (case hi => simp); intro w1 HB_; simp only [splice, List.set_cons_zero, List.set_cons_succ] at HB_; clear HA; have HA := Aside0.mk HB_; clear HB_)
    | (go_at_call 30; (with_reducible refine (node_Kind.calls k kd ino nm bl _ HK.out).mono ?_); rintro e w1 ⟨rfl, hb_⟩; have HB_ := HA.out.call1 hb_ rfl rfl rfl rfl; clear hb_; clear HA; have HA := Aside0.mk HB_; clear HB_)
    | ((with_reducible apply conv_); (case HH => first | exact HA.out | exact HA.out.any rfl rfl rfl rfl); (case hw => rfl); (case hev => conv => lhs; whnf); (case hv => rfl); (case hs => exact Try.underlying9); (case hd => exact Try.underlying34); (case he => exact Try.underlying5); intro bs w1 obs capbs HB_ HSbs hcapbs; have HSbs := Aside0.mk HSbs; have hcapbs := Aside0.mk hcapbs; simp only [Act.put, List.setIfInBounds_toArray, List.set_cons_zero, List.set_cons_succ]; clear HA; have HA := Aside0.mk HB_; clear HB_)
    | (go_at_call 50; (with_reducible apply Calls.mono); (case h => go_loud (exact number_at (by first | exact HA.out | exact HA.out.any rfl rfl rfl rfl) (by repeat (first | exact Holds.At.here | apply Holds.At.there)) (by rw [bytesOf_length]; exact hv) hcapbs.out (by first | exact pos_le _ _ _ | exact Nat.zero_le _ | omega) (by decide) (HSbs.out.mono (by simp)) hby.out)); rintro e w1 ⟨rfl, HB_⟩; clear HA; have HA := Aside0.mk HB_; clear HB_)
    | (go_at_call 52; (with_reducible apply Calls.mono); (case h => exact done_calls _ _ _ _ (bytesOf v) w _ _ [] (by first | exact HA.out | exact HA.out.any rfl rfl rfl rfl) (by repeat (first | exact List.Mem.head _ | refine List.Mem.tail _ ?_))); rintro e w' ⟨rfl, ⟨nd, rfl⟩⟩))
  (apply end_list [.cell 2 52, .tmp 3]; (case hres => rfl); (case hd => rfl); (case hvs => apply vcell (by first | exact HA.out | exact HA.out.any rfl rfl rfl rfl); (case hp => rfl); (case hm => repeat (first | exact List.Mem.head _ | refine List.Mem.tail _ ?_)); (case hag => rfl); (case hi => kernel_rfl); (case hvs => apply Vals.tmp; exact .nil)); (case hl => simp); (case hR => exact ⟨rfl, HA.out.below⟩))
set_option maxHeartbeats 8000000 in
set_option maxRecDepth 100000 in
theorem parseInode_k (k v : ByteArray) (g : Bool) (kd ino bl : Int) (nm : ByteArray) (w : World) (hk : node_Kind.f k = some (kd, ino, nm, bl)) (hv : v.size ≤ 281474976710656) (f0 : g = false) (f1 : (kd == 1) = false) (f2 : (kd != 1) = true) :
    Calls Try.prog 34 #[.agg #[.string k, .string v, .bool g]] w fun e w' => e = .returned (.tuple #[.agg #[.int .i64 (0), .int .i64 (0), .int .i64 (0), .int .i64 (0), .int .i64 (0), .int .i64 (0), .int .i64 (0)], .bool false]) ∧ Below w.heap.size w w' := by
  try subst f0
  have HK := Aside0.mk hk
  have hby : Aside0 (Bytes (bytesOf v)) := Aside0.mk (bytes_of v)
  have HA := Aside0.mk (Holds.start w)
  clear hk
  go_enter Try.func34, Try.ntmps34
  go_wp2_with (first
    | ((with_reducible apply load1_); (case HH => first | exact HA.out | exact HA.out.any rfl rfl rfl rfl); (case ht => rfl); (case hx => rfl); (case hw => rfl); (case hm => repeat (first | exact List.Mem.head _ | refine List.Mem.tail _ ?_)); (case hv => exact rfl); simp only [Act.put, List.setIfInBounds_toArray, List.set_cons_zero, List.set_cons_succ])
    | ((with_reducible apply loadN_ (n := 7)); (case HH => first | exact HA.out | exact HA.out.any rfl rfl rfl rfl); (case ht => rfl); (case hn => decide +kernel); (case hx => rfl); (case hw => rfl); (case hm => repeat (first | exact List.Mem.head _ | refine List.Mem.tail _ ?_)); (case hv => first | (simp only [List.drop_succ_cons, List.drop_zero, List.take_succ_cons, List.take_zero]; rfl) | rfl); (case hl => rfl); simp only [Act.put, List.setIfInBounds_toArray, List.set_cons_zero, List.set_cons_succ])
    | ((with_reducible apply box_); (case HH => first | exact HA.out | exact HA.out.any rfl rfl rfl rfl); (case hw => rfl); (case hev => conv => lhs; whnf); (case hy => rfl); intro bx w1 HB_; simp only [Act.put, List.setIfInBounds_toArray, List.set_cons_zero, List.set_cons_succ]; clear HA; have HA := Aside0.mk HB_; clear HB_)
    | ((with_reducible apply alloc_ (z := .agg #[.int .i64 0, .int .i64 0, .int .i64 0, .int .i64 0, .int .i64 0, .int .i64 0, .int .i64 0])); (case HH => first | exact HA.out | exact HA.out.any rfl rfl rfl rfl); (case hw => rfl); (case hz => kernel_rfl); (case hx => rfl); intro bx w1 HB_; simp only [Act.put, List.setIfInBounds_toArray, List.set_cons_zero, List.set_cons_succ]; clear HA; have HA := Aside0.mk HB_; clear HB_)
    | ((with_reducible apply store_); (case HH => first | exact HA.out | exact HA.out.any rfl rfl rfl rfl); (case hw => rfl); (case hx => rfl); (case hev => conv => lhs; whnf); (case hy => rfl); (case hm => repeat (first | exact Holds.At.here | apply Holds.At.there)); (case hl => rfl); (case hn => kernel_rfl); (case h1 => simp [Value.oneCell']); (case hi => simp); intro w1 HB_; simp only [splice, List.set_cons_zero, List.set_cons_succ] at HB_; clear HA; have HA := Aside0.mk HB_; clear HB_)
    | (go_at_call 30; (with_reducible refine (node_Kind.calls k kd ino nm bl _ HK.out).mono ?_); rintro e w1 ⟨rfl, hb_⟩; have HB_ := HA.out.call1 hb_ rfl rfl rfl rfl; clear hb_; clear HA; have HA := Aside0.mk HB_; clear HB_)
    | ((with_reducible apply conv_); (case HH => first | exact HA.out | exact HA.out.any rfl rfl rfl rfl); (case hw => rfl); (case hev => conv => lhs; whnf); (case hv => rfl); (case hs => exact Try.underlying9); (case hd => exact Try.underlying34); (case he => exact Try.underlying5); intro bs w1 obs capbs HB_ HSbs hcapbs; have HSbs := Aside0.mk HSbs; have hcapbs := Aside0.mk hcapbs; simp only [Act.put, List.setIfInBounds_toArray, List.set_cons_zero, List.set_cons_succ]; clear HA; have HA := Aside0.mk HB_; clear HB_)
    | (go_at_call 50; (with_reducible apply Calls.mono); (case h => go_loud (exact number_at (by first | exact HA.out | exact HA.out.any rfl rfl rfl rfl) (by repeat (first | exact Holds.At.here | apply Holds.At.there)) (by rw [bytesOf_length]; exact hv) hcapbs.out (by first | exact pos_le _ _ _ | exact Nat.zero_le _ | omega) (by decide) (HSbs.out.mono (by simp)) hby.out)); rintro e w1 ⟨rfl, HB_⟩; clear HA; have HA := Aside0.mk HB_; clear HB_)
    | (go_at_call 52; (with_reducible apply Calls.mono); (case h => exact done_calls _ _ _ _ (bytesOf v) w _ _ [] (by first | exact HA.out | exact HA.out.any rfl rfl rfl rfl) (by repeat (first | exact List.Mem.head _ | refine List.Mem.tail _ ?_))); rintro e w' ⟨rfl, ⟨nd, rfl⟩⟩))
  (apply end_list [.cell 2 52, .tmp 3]; (case hres => rfl); (case hd => rfl); (case hvs => apply vcell (by first | exact HA.out | exact HA.out.any rfl rfl rfl rfl); (case hp => rfl); (case hm => repeat (first | exact List.Mem.head _ | refine List.Mem.tail _ ?_)); (case hag => rfl); (case hi => kernel_rfl); (case hvs => apply Vals.tmp; exact .nil)); (case hl => simp); (case hR => exact ⟨rfl, HA.out.below⟩))
set_option maxHeartbeats 8000000 in
set_option maxRecDepth 100000 in
theorem parseInode_d (k v : ByteArray) (g : Bool) (kd ino bl : Int) (nm : ByteArray) (w : World) (hk : node_Kind.f k = some (kd, ino, nm, bl)) (hv : v.size ≤ 281474976710656) (f0 : g = false) (f1 : (kd == 1) = true) (f2 : (kd != 1) = false) (f3 : ((((pos (bytesOf v) (pos (bytesOf v) (pos (bytesOf v) (pos (bytesOf v) (pos (bytesOf v) (pos (bytesOf v) 0 1) 2) 2) 2) 2) 4) : Nat) : Int) == ((bytesOf v).length : Int)) = false) :
    Calls Try.prog 34 #[.agg #[.string k, .string v, .bool g]] w fun e w' => e = .returned (.tuple #[.agg #[.int .i64 (0), .int .i64 (0), .int .i64 (0), .int .i64 (0), .int .i64 (0), .int .i64 (0), .int .i64 (0)], .bool false]) ∧ Below w.heap.size w w' := by
  try subst f0
  have HK := Aside0.mk hk
  have hby : Aside0 (Bytes (bytesOf v)) := Aside0.mk (bytes_of v)
  have HA := Aside0.mk (Holds.start w)
  clear hk
  go_enter Try.func34, Try.ntmps34
  go_wp2_with (first
    | ((with_reducible apply load1_); (case HH => first | exact HA.out | exact HA.out.any rfl rfl rfl rfl); (case ht => rfl); (case hx => rfl); (case hw => rfl); (case hm => repeat (first | exact List.Mem.head _ | refine List.Mem.tail _ ?_)); (case hv => exact rfl); simp only [Act.put, List.setIfInBounds_toArray, List.set_cons_zero, List.set_cons_succ])
    | ((with_reducible apply loadN_ (n := 7)); (case HH => first | exact HA.out | exact HA.out.any rfl rfl rfl rfl); (case ht => rfl); (case hn => decide +kernel); (case hx => rfl); (case hw => rfl); (case hm => repeat (first | exact List.Mem.head _ | refine List.Mem.tail _ ?_)); (case hv => first | (simp only [List.drop_succ_cons, List.drop_zero, List.take_succ_cons, List.take_zero]; rfl) | rfl); (case hl => rfl); simp only [Act.put, List.setIfInBounds_toArray, List.set_cons_zero, List.set_cons_succ])
    | ((with_reducible apply box_); (case HH => first | exact HA.out | exact HA.out.any rfl rfl rfl rfl); (case hw => rfl); (case hev => conv => lhs; whnf); (case hy => rfl); intro bx w1 HB_; simp only [Act.put, List.setIfInBounds_toArray, List.set_cons_zero, List.set_cons_succ]; clear HA; have HA := Aside0.mk HB_; clear HB_)
    | ((with_reducible apply alloc_ (z := .agg #[.int .i64 0, .int .i64 0, .int .i64 0, .int .i64 0, .int .i64 0, .int .i64 0, .int .i64 0])); (case HH => first | exact HA.out | exact HA.out.any rfl rfl rfl rfl); (case hw => rfl); (case hz => kernel_rfl); (case hx => rfl); intro bx w1 HB_; simp only [Act.put, List.setIfInBounds_toArray, List.set_cons_zero, List.set_cons_succ]; clear HA; have HA := Aside0.mk HB_; clear HB_)
    | ((with_reducible apply store_); (case HH => first | exact HA.out | exact HA.out.any rfl rfl rfl rfl); (case hw => rfl); (case hx => rfl); (case hev => conv => lhs; whnf); (case hy => rfl); (case hm => repeat (first | exact Holds.At.here | apply Holds.At.there)); (case hl => rfl); (case hn => kernel_rfl); (case h1 => simp [Value.oneCell']); (case hi => simp); intro w1 HB_; simp only [splice, List.set_cons_zero, List.set_cons_succ] at HB_; clear HA; have HA := Aside0.mk HB_; clear HB_)
    | (go_at_call 30; (with_reducible refine (node_Kind.calls k kd ino nm bl _ HK.out).mono ?_); rintro e w1 ⟨rfl, hb_⟩; have HB_ := HA.out.call1 hb_ rfl rfl rfl rfl; clear hb_; clear HA; have HA := Aside0.mk HB_; clear HB_)
    | ((with_reducible apply conv_); (case HH => first | exact HA.out | exact HA.out.any rfl rfl rfl rfl); (case hw => rfl); (case hev => conv => lhs; whnf); (case hv => rfl); (case hs => exact Try.underlying9); (case hd => exact Try.underlying34); (case he => exact Try.underlying5); intro bs w1 obs capbs HB_ HSbs hcapbs; have HSbs := Aside0.mk HSbs; have hcapbs := Aside0.mk hcapbs; simp only [Act.put, List.setIfInBounds_toArray, List.set_cons_zero, List.set_cons_succ]; clear HA; have HA := Aside0.mk HB_; clear HB_)
    | (go_at_call 50; (with_reducible apply Calls.mono); (case h => go_loud (exact number_at (by first | exact HA.out | exact HA.out.any rfl rfl rfl rfl) (by repeat (first | exact Holds.At.here | apply Holds.At.there)) (by rw [bytesOf_length]; exact hv) hcapbs.out (by first | exact pos_le _ _ _ | exact Nat.zero_le _ | omega) (by decide) (HSbs.out.mono (by simp)) hby.out)); rintro e w1 ⟨rfl, HB_⟩; clear HA; have HA := Aside0.mk HB_; clear HB_)
    | (go_at_call 52; (with_reducible apply Calls.mono); (case h => exact done_calls _ _ _ _ (bytesOf v) w _ _ [] (by first | exact HA.out | exact HA.out.any rfl rfl rfl rfl) (by repeat (first | exact List.Mem.head _ | refine List.Mem.tail _ ?_))); rintro e w' ⟨rfl, ⟨nd, rfl⟩⟩))
  (apply end_list [.cell 2 52, .tmp 3]; (case hres => rfl); (case hd => rfl); (case hvs => apply vcell (by first | exact HA.out | exact HA.out.any rfl rfl rfl rfl); (case hp => rfl); (case hm => repeat (first | exact List.Mem.head _ | refine List.Mem.tail _ ?_)); (case hag => rfl); (case hi => kernel_rfl); (case hvs => apply Vals.tmp; exact .nil)); (case hl => simp); (case hR => exact ⟨rfl, HA.out.below⟩))
set_option maxHeartbeats 8000000 in
set_option maxRecDepth 100000 in
theorem parseInode_r (k v : ByteArray) (g : Bool) (kd ino bl : Int) (nm : ByteArray) (w : World) (hk : node_Kind.f k = some (kd, ino, nm, bl)) (hv : v.size ≤ 281474976710656) (f0 : g = false) (f1 : (kd == 1) = true) (f2 : (kd != 1) = false) (f3 : ((((pos (bytesOf v) (pos (bytesOf v) (pos (bytesOf v) (pos (bytesOf v) (pos (bytesOf v) (pos (bytesOf v) 0 1) 2) 2) 2) 2) 4) : Nat) : Int) == ((bytesOf v).length : Int)) = true) (f4 : rightInode (ino) (leVal (nxt (bytesOf v) 0 1)) (leVal (nxt (bytesOf v) (pos (bytesOf v) 0 1) 2)) (leVal (nxt (bytesOf v) (pos (bytesOf v) (pos (bytesOf v) 0 1) 2) 2)) (leVal (nxt (bytesOf v) (pos (bytesOf v) (pos (bytesOf v) (pos (bytesOf v) 0 1) 2) 2) 2)) (leVal (nxt (bytesOf v) (pos (bytesOf v) (pos (bytesOf v) (pos (bytesOf v) (pos (bytesOf v) 0 1) 2) 2) 2) 2)) (leVal (nxt (bytesOf v) (pos (bytesOf v) (pos (bytesOf v) (pos (bytesOf v) (pos (bytesOf v) (pos (bytesOf v) 0 1) 2) 2) 2) 2) 4)) = false) :
    Calls Try.prog 34 #[.agg #[.string k, .string v, .bool g]] w fun e w' => e = .returned (.tuple #[.agg #[.int .i64 (0), .int .i64 (0), .int .i64 (0), .int .i64 (0), .int .i64 (0), .int .i64 (0), .int .i64 (0)], .bool false]) ∧ Below w.heap.size w w' := by
  try subst f0
  have HK := Aside0.mk hk
  have hby : Aside0 (Bytes (bytesOf v)) := Aside0.mk (bytes_of v)
  have HA := Aside0.mk (Holds.start w)
  clear hk
  have HR := Aside0.mk (show node_right.f (ino) (leVal (nxt (bytesOf v) 0 1)) (leVal (nxt (bytesOf v) (pos (bytesOf v) 0 1) 2)) (leVal (nxt (bytesOf v) (pos (bytesOf v) (pos (bytesOf v) 0 1) 2) 2)) (leVal (nxt (bytesOf v) (pos (bytesOf v) (pos (bytesOf v) (pos (bytesOf v) 0 1) 2) 2) 2)) (leVal (nxt (bytesOf v) (pos (bytesOf v) (pos (bytesOf v) (pos (bytesOf v) (pos (bytesOf v) 0 1) 2) 2) 2) 2)) (leVal (nxt (bytesOf v) (pos (bytesOf v) (pos (bytesOf v) (pos (bytesOf v) (pos (bytesOf v) (pos (bytesOf v) 0 1) 2) 2) 2) 2) 4)) = some false by unfold node_right.f; rw [f4])
  go_enter Try.func34, Try.ntmps34
  go_wp2_with (first
    | ((with_reducible apply load1_); (case HH => first | exact HA.out | exact HA.out.any rfl rfl rfl rfl); (case ht => rfl); (case hx => rfl); (case hw => rfl); (case hm => repeat (first | exact List.Mem.head _ | refine List.Mem.tail _ ?_)); (case hv => exact rfl); simp only [Act.put, List.setIfInBounds_toArray, List.set_cons_zero, List.set_cons_succ])
    | ((with_reducible apply loadN_ (n := 7)); (case HH => first | exact HA.out | exact HA.out.any rfl rfl rfl rfl); (case ht => rfl); (case hn => decide +kernel); (case hx => rfl); (case hw => rfl); (case hm => repeat (first | exact List.Mem.head _ | refine List.Mem.tail _ ?_)); (case hv => first | (simp only [List.drop_succ_cons, List.drop_zero, List.take_succ_cons, List.take_zero]; rfl) | rfl); (case hl => rfl); simp only [Act.put, List.setIfInBounds_toArray, List.set_cons_zero, List.set_cons_succ])
    | ((with_reducible apply box_); (case HH => first | exact HA.out | exact HA.out.any rfl rfl rfl rfl); (case hw => rfl); (case hev => conv => lhs; whnf); (case hy => rfl); intro bx w1 HB_; simp only [Act.put, List.setIfInBounds_toArray, List.set_cons_zero, List.set_cons_succ]; clear HA; have HA := Aside0.mk HB_; clear HB_)
    | ((with_reducible apply alloc_ (z := .agg #[.int .i64 0, .int .i64 0, .int .i64 0, .int .i64 0, .int .i64 0, .int .i64 0, .int .i64 0])); (case HH => first | exact HA.out | exact HA.out.any rfl rfl rfl rfl); (case hw => rfl); (case hz => kernel_rfl); (case hx => rfl); intro bx w1 HB_; simp only [Act.put, List.setIfInBounds_toArray, List.set_cons_zero, List.set_cons_succ]; clear HA; have HA := Aside0.mk HB_; clear HB_)
    | ((with_reducible apply store_); (case HH => first | exact HA.out | exact HA.out.any rfl rfl rfl rfl); (case hw => rfl); (case hx => rfl); (case hev => conv => lhs; whnf); (case hy => rfl); (case hm => repeat (first | exact Holds.At.here | apply Holds.At.there)); (case hl => rfl); (case hn => kernel_rfl); (case h1 => simp [Value.oneCell']); (case hi => simp); intro w1 HB_; simp only [splice, List.set_cons_zero, List.set_cons_succ] at HB_; clear HA; have HA := Aside0.mk HB_; clear HB_)
    | (go_at_call 30; (with_reducible refine (node_Kind.calls k kd ino nm bl _ HK.out).mono ?_); rintro e w1 ⟨rfl, hb_⟩; have HB_ := HA.out.call1 hb_ rfl rfl rfl rfl; clear hb_; clear HA; have HA := Aside0.mk HB_; clear HB_)
    | ((with_reducible apply conv_); (case HH => first | exact HA.out | exact HA.out.any rfl rfl rfl rfl); (case hw => rfl); (case hev => conv => lhs; whnf); (case hv => rfl); (case hs => exact Try.underlying9); (case hd => exact Try.underlying34); (case he => exact Try.underlying5); intro bs w1 obs capbs HB_ HSbs hcapbs; have HSbs := Aside0.mk HSbs; have hcapbs := Aside0.mk hcapbs; simp only [Act.put, List.setIfInBounds_toArray, List.set_cons_zero, List.set_cons_succ]; clear HA; have HA := Aside0.mk HB_; clear HB_)
    | (go_at_call 50; (with_reducible apply Calls.mono); (case h => go_loud (exact number_at (by first | exact HA.out | exact HA.out.any rfl rfl rfl rfl) (by repeat (first | exact Holds.At.here | apply Holds.At.there)) (by rw [bytesOf_length]; exact hv) hcapbs.out (by first | exact pos_le _ _ _ | exact Nat.zero_le _ | omega) (by decide) (HSbs.out.mono (by simp)) hby.out)); rintro e w1 ⟨rfl, HB_⟩; clear HA; have HA := Aside0.mk HB_; clear HB_)
    | (go_at_call 52; (with_reducible apply Calls.mono); (case h => exact done_calls _ _ _ _ (bytesOf v) w _ _ [] (by first | exact HA.out | exact HA.out.any rfl rfl rfl rfl) (by repeat (first | exact List.Mem.head _ | refine List.Mem.tail _ ?_))); rintro e w' ⟨rfl, ⟨nd, rfl⟩⟩)
    | (go_at_call 59; (with_reducible refine (node_right.calls (ino) (leVal (nxt (bytesOf v) 0 1)) (leVal (nxt (bytesOf v) (pos (bytesOf v) 0 1) 2)) (leVal (nxt (bytesOf v) (pos (bytesOf v) (pos (bytesOf v) 0 1) 2) 2)) (leVal (nxt (bytesOf v) (pos (bytesOf v) (pos (bytesOf v) (pos (bytesOf v) 0 1) 2) 2) 2)) (leVal (nxt (bytesOf v) (pos (bytesOf v) (pos (bytesOf v) (pos (bytesOf v) (pos (bytesOf v) 0 1) 2) 2) 2) 2)) (leVal (nxt (bytesOf v) (pos (bytesOf v) (pos (bytesOf v) (pos (bytesOf v) (pos (bytesOf v) (pos (bytesOf v) 0 1) 2) 2) 2) 2) 4)) _ _ HR.out).mono ?_); rintro e w1 ⟨rfl, hb_⟩; have HB_ := HA.out.call1 hb_ rfl rfl rfl rfl; clear hb_; clear HA; have HA := Aside0.mk HB_; clear HB_))
  (apply end_list [.cell 2 52, .tmp 3]; (case hres => rfl); (case hd => rfl); (case hvs => apply vcell (by first | exact HA.out | exact HA.out.any rfl rfl rfl rfl); (case hp => rfl); (case hm => repeat (first | exact List.Mem.head _ | refine List.Mem.tail _ ?_)); (case hag => rfl); (case hi => kernel_rfl); (case hvs => apply Vals.tmp; exact .nil)); (case hl => simp); (case hR => exact ⟨rfl, HA.out.below⟩))
/-- What a node is read as_, as_ an inode. -/
def parseI (g : Bool) (kd ino : Int) (v : ByteArray) : Int × Int × Int × Int × Int × Int × Int × Bool :=
  if g = false ∧ kd = 1 ∧ (pos (bytesOf v) (pos (bytesOf v) (pos (bytesOf v) (pos (bytesOf v) (pos (bytesOf v) (pos (bytesOf v) 0 1) 2) 2) 2) 2) 4) = (bytesOf v).length ∧ rightInode (ino) (leVal (nxt (bytesOf v) 0 1)) (leVal (nxt (bytesOf v) (pos (bytesOf v) 0 1) 2)) (leVal (nxt (bytesOf v) (pos (bytesOf v) (pos (bytesOf v) 0 1) 2) 2)) (leVal (nxt (bytesOf v) (pos (bytesOf v) (pos (bytesOf v) (pos (bytesOf v) 0 1) 2) 2) 2)) (leVal (nxt (bytesOf v) (pos (bytesOf v) (pos (bytesOf v) (pos (bytesOf v) (pos (bytesOf v) 0 1) 2) 2) 2) 2)) (leVal (nxt (bytesOf v) (pos (bytesOf v) (pos (bytesOf v) (pos (bytesOf v) (pos (bytesOf v) (pos (bytesOf v) 0 1) 2) 2) 2) 2) 4)) = true then (ino, leVal (nxt (bytesOf v) 0 1), leVal (nxt (bytesOf v) (pos (bytesOf v) 0 1) 2), leVal (nxt (bytesOf v) (pos (bytesOf v) (pos (bytesOf v) 0 1) 2) 2), leVal (nxt (bytesOf v) (pos (bytesOf v) (pos (bytesOf v) (pos (bytesOf v) 0 1) 2) 2) 2), leVal (nxt (bytesOf v) (pos (bytesOf v) (pos (bytesOf v) (pos (bytesOf v) (pos (bytesOf v) 0 1) 2) 2) 2) 2), leVal (nxt (bytesOf v) (pos (bytesOf v) (pos (bytesOf v) (pos (bytesOf v) (pos (bytesOf v) (pos (bytesOf v) 0 1) 2) 2) 2) 2) 4), true) else (0, 0, 0, 0, 0, 0, 0, false)
def node_ParseInode.f (k v : ByteArray) (g : Bool) : Option (Int × Int × Int × Int × Int × Int × Int × Bool) :=
  (node_Kind.f k).bind fun t => if v.size ≤ 281474976710656 then some (parseI g t.1 t.2.1 v) else none
theorem node_ParseInode.calls (a0_0 : ByteArray) (a0_1 : ByteArray) (a0_2 : Bool) (r1 : Int) (r2 : Int) (r3 : Int) (r4 : Int) (r5 : Int) (r6 : Int) (r7 : Int) (r8 : Bool) (w : World) (h : node_ParseInode.f a0_0 a0_1 a0_2 = some (r1, r2, r3, r4, r5, r6, r7, r8)) :
    Calls Try.prog 34 #[.agg #[.string a0_0, .string a0_1, .bool a0_2]] w fun e w' => e = .returned (.tuple #[.agg #[.int .i64 r1, .int .i64 r2, .int .i64 r3, .int .i64 r4, .int .i64 r5, .int .i64 r6, .int .i64 r7], .bool r8]) ∧ Below w.heap.size w w' := by
  unfold node_ParseInode.f at h
  obtain ⟨⟨kd, ino, nm, bl⟩, hk, h⟩ := Option.bind_eq_some_iff.mp h
  by_cases hv : a0_1.size ≤ 281474976710656
  rotate_left
  · rw [if_neg hv] at h
    cases h
  rw [if_pos hv] at h
  replace h := Option.some.inj h
  unfold parseI at h
  have hB : ∀ (a b : Int), a = b → (a == b) = true ∧ (a != b) = false := fun a b h => by subst h; simp
  have hN : ∀ (a b : Int), ¬ a = b → (a == b) = false ∧ (a != b) = true := fun a b h => by simp [h]
  cases a0_2 with
  | true =>
    rw [if_neg (by simp)] at h
    simp only [Prod.mk.injEq] at h
    obtain ⟨rfl, rfl, rfl, rfl, rfl, rfl, rfl, rfl⟩ := h
    exact parseInode_g a0_0 a0_1 true kd ino bl nm w hk hv rfl
  | false =>
    by_cases h1 : kd = 1
    rotate_left
    · rw [if_neg (by simp [h1])] at h
      simp only [Prod.mk.injEq] at h
      obtain ⟨rfl, rfl, rfl, rfl, rfl, rfl, rfl, rfl⟩ := h
      exact parseInode_k a0_0 a0_1 false kd ino bl nm w hk hv rfl (hN _ _ h1).1 (hN _ _ h1).2
    by_cases h2 : (pos (bytesOf a0_1) (pos (bytesOf a0_1) (pos (bytesOf a0_1) (pos (bytesOf a0_1) (pos (bytesOf a0_1) (pos (bytesOf a0_1) 0 1) 2) 2) 2) 2) 4) = (bytesOf a0_1).length
    rotate_left
    · rw [if_neg (fun hh => h2 hh.2.2.1)] at h
      simp only [Prod.mk.injEq] at h
      obtain ⟨rfl, rfl, rfl, rfl, rfl, rfl, rfl, rfl⟩ := h
      exact parseInode_d a0_0 a0_1 false kd ino bl nm w hk hv rfl (hB _ _ h1).1 (hB _ _ h1).2 (hN _ _ (by omega)).1
    by_cases h3 : rightInode (ino) (leVal (nxt (bytesOf a0_1) 0 1)) (leVal (nxt (bytesOf a0_1) (pos (bytesOf a0_1) 0 1) 2)) (leVal (nxt (bytesOf a0_1) (pos (bytesOf a0_1) (pos (bytesOf a0_1) 0 1) 2) 2)) (leVal (nxt (bytesOf a0_1) (pos (bytesOf a0_1) (pos (bytesOf a0_1) (pos (bytesOf a0_1) 0 1) 2) 2) 2)) (leVal (nxt (bytesOf a0_1) (pos (bytesOf a0_1) (pos (bytesOf a0_1) (pos (bytesOf a0_1) (pos (bytesOf a0_1) 0 1) 2) 2) 2) 2)) (leVal (nxt (bytesOf a0_1) (pos (bytesOf a0_1) (pos (bytesOf a0_1) (pos (bytesOf a0_1) (pos (bytesOf a0_1) (pos (bytesOf a0_1) 0 1) 2) 2) 2) 2) 4)) = true
    · rw [if_pos ⟨rfl, h1, h2, h3⟩] at h
      simp only [Prod.mk.injEq] at h
      obtain ⟨rfl, rfl, rfl, rfl, rfl, rfl, rfl, rfl⟩ := h
      exact parseInode_ok a0_0 a0_1 false kd ino bl nm w hk hv rfl (hB _ _ h1).1 (hB _ _ h1).2 (hB _ _ (by omega)).1 h3
    · rw [if_neg (fun hh => h3 hh.2.2.2)] at h
      simp only [Prod.mk.injEq] at h
      obtain ⟨rfl, rfl, rfl, rfl, rfl, rfl, rfl, rfl⟩ := h
      exact parseInode_r a0_0 a0_1 false kd ino bl nm w hk hv rfl (hB _ _ h1).1 (hB _ _ h1).2 (hB _ _ (by omega)).1 (Bool.eq_false_iff.mpr h3)
end Go.Proofs.Ytakchpeohmkpkaa.Q

namespace Go.Proofs.Ytakchpeohmkpkaa.Sep
open Go.RowKit Go.Proofs.YtakchpeohmkpkaaW.PrintWords Go.Proofs.YtakchpeohmkpkaaW.PrintLast
set_option linter.unusedVariables false
set_option linter.unusedSimpArgs false
section
variable {P : Program} {ops : Array Oper} {Q : Exit → Act → World → Prop} {md : Region.Mode} {ds : List Nat} {w0 w W : World} {H H' : Frag} {a a' : Act} {K : Act → World → Prop} {oi : Oper} {N : Option Tmp}
theorem start_H (HH : Holds w0 w H) {id n : Nat} (ds : List Nat) (l : Array Bool) (hm : P.follows .mixedOrders = true) (hn : ops.size = n) (hl : Array.replicate n false = l)
    (h : wpAnyLast P .any ops Q (fun w' => Holds w0 w' H) ds n l a w.drew) : (Code.region id ops true).wp P Q a w := start_ l hm hn hl HH.drew (fun _ => h)
theorem takeN_ (hS : Holds w0 w H) {i : Nat} {fuel : Nat} {l : Array Bool} (l' : Array Bool) {t : TypeId} {x : Operand} {n b j : Nat} {cs vs : List Value} {ty : TypeId} {fz : Nat × Nat} (hi : ops[i]? = some oi) (hN : oi.dst = N) (hc : takeB md ops ds l l' i = true) (hQ : ∀ c a w, Q (.panic c) (a.put oi.dst (.agg vs.toArray)) w → Q (.panic c) a w)
    (hop : oi.op = .load t x) (ht : aggB P t = true) (hn : (P.info? t).map (·.size) = some n) (hx : a.eval x = .pointer (some ⟨b, j, none⟩)) (hw : Region.wanted oi (yielded ops a.tmps) = true) (hm : (b, Cl cs ty fz) ∈ H) (hv : (cs.drop j).take n = vs) (hl : vs.length = n) (ha : a.put N (.agg vs.toArray) = a')
    (h : wpAnyLast P md ops Q (fun w' => Holds w0 w' H) ds fuel l' a' w) : wpAnyLast P md ops Q (fun w' => Holds w0 w' H) ds (fuel + 1) l a w :=
  take_ (S := fun w' => Holds w0 w' H) l' hi hN hc hQ (Or.inl ⟨hw, fun w' hw' => run_loadN hop (manyB_of ht hn) hx (hw'.has _ hm) hv hl⟩) hS ha h
theorem store_e (HH : Holds w0 W H) {t : TypeId} {x y : Operand} {n b i : Nat} {cs vs : List Value} {ty : TypeId} (hop : oi.op = .store t x y) (hN : oi.dst = none) (hw : Region.wanted oi (yielded ops a.tmps) = true) (hx : a.eval x = .pointer (some ⟨b, i, none⟩))
    {v : Value} (hev : a.eval y = v) (hy : v.cells = vs.toArray) (hm : Holds.At b (Cl cs ty) (Cl (splice cs i vs) ty) H H') (hl : vs.length = n) (hn : (P.info? t).map (·.size) = some n) (h1 : ∀ u, u ∈ vs → u.oneCell' = true) (hi : i + n ≤ cs.length)
    (k : ∀ w1, Holds w0 w1 H' → K a w1) : if Region.wanted oi (yielded ops a.tmps) = true then Oper.wp P oi a W K Q else K (a.put none undef) W := by
  subst hev
  exact skip_ hw hN (run_storeN hop hn hx (HH.has _ hm.mem) hy hl h1 hi) (k _ (HH.repl hm))
theorem alloc_e (HH : Holds w0 W H) {t : TypeId} {z : Value} {cs : List Value} (hop : oi.op = .alloc t) (hN : oi.dst = N) (hw : Region.wanted oi (yielded ops a.tmps) = true) (hz : (P.info? t).bind (·.zero) = some z) (hx : z.cells = cs.toArray)
    (k : ∀ b w1, Holds w0 w1 ((b, Cl cs t) :: H) → K (a.put N (.pointer (some ⟨b, 0, none⟩))) w1) : if Region.wanted oi (yielded ops a.tmps) = true then Oper.wp P oi a W K Q else K (a.put N undef) W := by
  refine value_ hw hN (run_alloc hop ?_ hx) (k _ _ (HH.alloc _))
  obtain ⟨i, hi, hzz⟩ := Option.bind_eq_some_iff.1 hz
  simp [zeroValue, typeInfo, hi, hzz]
theorem call_e {f : FuncId} {fn : Func} {ops_ : Array Operand} {ts : Array TypeId} {args : Array Value} {R : Ending → World → Prop} (hf : P.funcs[f]? = some fn) (hname : (fn.name == "runtime.NumGoroutine") = false) (hb : fn.body.isSome = true) (hop : oi.op = .call { callee := .value (.func f), args := ops_, argTypes := ts }) (hN : oi.dst = N) (hw : Region.wanted oi (yielded ops a.tmps) = true) (hargs : ops_.map a.eval = args)
    (hcl : Calls P f args W R) (k : ∀ e w', R e w' → ∃ v, e = .returned v ∧ K (a.put N v) w') : if Region.wanted oi (yielded ops a.tmps) = true then Oper.wp P oi a W K Q else K (a.put N undef) W :=
  goes_ hf hname hb args hw hN hop hargs (hcl.mono k)
end
end Go.Proofs.Ytakchpeohmkpkaa.Sep
