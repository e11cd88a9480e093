/- Functions of this seat as plain Lean functions, each with the contract that the machine keeps. No condition. Laid by wip/qprint.py. -/
import Derived.Test.YtakchpeohmkpkaaQ0
import Derived.Test.YtakchpeohmkpkaaQ1
import Derived.Test.YtakchpeohmkpkaaQ2
namespace Go.Proofs.Ytakchpeohmkpkaa.Q
open Go.RowKit Go.Proofs.YtakchpeohmkpkaaW.PrintWords Go.Proofs.YtakchpeohmkpkaaW.PrintLast Go.Proofs.YtakchpeohmkpkaaW.PrintMore
attribute [local go_sem] max2_int min2_int max_two min_two max_three min_three max_four min_four   -- for this text's walks alone
set_option linter.unusedVariables false
set_option linter.unusedSimpArgs false

/-! ### pumicelaw06_NodeOrder: function 3 -/
mutual
def pumicelaw06_NodeOrder.j0 : Nat → Int → Int → ByteArray → ByteArray → Int → Int → Bool → Option (Bool)
  | 0, _, _, _, _, _, _, _ => none
  | k + 1, x0, x1, x2, x3, x4, x5, x44 => if x44 = true then ((pumicelaw06_alive.f).bind fun t138 => (some t138)) else ((names_Less.f x2 x3).bind fun t139 => ((node_EntryKey.f x0 x2).bind fun t140 => ((node_EntryKey.f x0 x3).bind fun t141 => ((names_Less.f t140 t141).bind fun t142 => (if (t139 != t142) = true then (pumicelaw06_NodeOrder.j1 k x0 x1 x2 x4 x5 true) else ((node_BlockKey.f x0 x4).bind fun t143 => ((node_BlockKey.f x0 x5).bind fun t144 => ((names_Less.f t143 t144).bind fun t145 => (pumicelaw06_NodeOrder.j1 k x0 x1 x2 x4 x5 ((decide (x4 < x5)) != t145))))))))))
def pumicelaw06_NodeOrder.j1 : Nat → Int → Int → ByteArray → Int → Int → Bool → Option (Bool)
  | 0, _, _, _, _, _, _ => none
  | k + 1, x0, x1, x2, x4, x5, x69 => if x69 = true then (none) else ((node_From.f x0 2).bind fun bt146 => ((node_EntryKey.f x0 x2).bind fun t148 => ((pumicelaw06_within.f t148 bt146.1 bt146.2).bind fun t149 => (if t149 = true then ((node_InodeKey.f x0).bind fun t150 => ((pumicelaw06_within.f t150 bt146.1 bt146.2).bind fun t151 => (if t151 = true then (pumicelaw06_NodeOrder.j2 k x0 x1 x2 x4 x5 true) else ((node_BlockKey.f x0 x4).bind fun t152 => ((pumicelaw06_within.f t152 bt146.1 bt146.2).bind fun t153 => (if t153 = true then (pumicelaw06_NodeOrder.j2 k x0 x1 x2 x4 x5 true) else ((node_OrphanKey.f x0).bind fun t154 => ((pumicelaw06_within.f t154 bt146.1 bt146.2).bind fun t155 => (if t155 = true then (pumicelaw06_NodeOrder.j2 k x0 x1 x2 x4 x5 true) else ((node_EntryKey.f x1 x2).bind fun t156 => ((pumicelaw06_within.f t156 bt146.1 bt146.2).bind fun t157 => (pumicelaw06_NodeOrder.j2 k x0 x1 x2 x4 x5 ((x1 != x0) == t157))))))))))))) else (pumicelaw06_NodeOrder.j2 k x0 x1 x2 x4 x5 true)))))
def pumicelaw06_NodeOrder.j2 : Nat → Int → Int → ByteArray → Int → Int → Bool → Option (Bool)
  | 0, _, _, _, _, _, _ => none
  | k + 1, x0, x1, x2, x4, x5, x115 => if x115 = true then (none) else ((node_From.f x0 3).bind fun bt158 => ((node_BlockKey.f x0 x4).bind fun t160 => ((pumicelaw06_within.f t160 bt158.1 bt158.2).bind fun t161 => (if t161 = true then ((node_EntryKey.f x0 x2).bind fun t162 => ((pumicelaw06_within.f t162 bt158.1 bt158.2).bind fun t163 => (if t163 = true then (pumicelaw06_NodeOrder.j3 k x0 x1 true) else ((node_BlockKey.f x1 x5).bind fun t164 => ((pumicelaw06_within.f t164 bt158.1 bt158.2).bind fun t165 => (pumicelaw06_NodeOrder.j3 k x0 x1 ((x1 != x0) == t165))))))) else (pumicelaw06_NodeOrder.j3 k x0 x1 true)))))
def pumicelaw06_NodeOrder.j3 : Nat → Int → Int → Bool → Option (Bool)
  | 0, _, _, _ => none
  | k + 1, x0, x1, x147 => if x147 = true then (none) else ((node_InodeKey.f x0).bind fun t166 => ((node_InodeKey.f x1).bind fun t167 => ((names_Less.f t166 t167).bind fun t168 => (if ((decide (x0 < x1)) == t168) = true then ((pumicelaw06_alive.f).bind fun t169 => (some t169)) else (none)))))
end
def pumicelaw06_NodeOrder.f (k : Nat) (a0 : Int) (a1 : Int) (a2 : ByteArray) (a3 : ByteArray) (a4 : Int) (a5 : Int) : Option (Bool) := if a0 < 1 then (pumicelaw06_NodeOrder.j0 k a0 a1 a2 a3 a4 a5 true) else (if a0 > 4096 then (pumicelaw06_NodeOrder.j0 k a0 a1 a2 a3 a4 a5 true) else (if a1 < 1 then (pumicelaw06_NodeOrder.j0 k a0 a1 a2 a3 a4 a5 true) else (if a1 > 4096 then (pumicelaw06_NodeOrder.j0 k a0 a1 a2 a3 a4 a5 true) else (if a4 < 0 then (pumicelaw06_NodeOrder.j0 k a0 a1 a2 a3 a4 a5 true) else (if a4 > 127 then (pumicelaw06_NodeOrder.j0 k a0 a1 a2 a3 a4 a5 true) else (if a5 < 0 then (pumicelaw06_NodeOrder.j0 k a0 a1 a2 a3 a4 a5 true) else (pumicelaw06_NodeOrder.j0 k a0 a1 a2 a3 a4 a5 (decide (a5 > 127)))))))))
theorem pumicelaw06_NodeOrder.mono_l : ∀ k, (∀ y0 y1 y2 y3 y4 y5 y6, LeO (pumicelaw06_NodeOrder.j0 k y0 y1 y2 y3 y4 y5 y6) (pumicelaw06_NodeOrder.j0 (k + 1) y0 y1 y2 y3 y4 y5 y6)) ∧ (∀ y0 y1 y2 y3 y4 y5, LeO (pumicelaw06_NodeOrder.j1 k y0 y1 y2 y3 y4 y5) (pumicelaw06_NodeOrder.j1 (k + 1) y0 y1 y2 y3 y4 y5)) ∧ (∀ y0 y1 y2 y3 y4 y5, LeO (pumicelaw06_NodeOrder.j2 k y0 y1 y2 y3 y4 y5) (pumicelaw06_NodeOrder.j2 (k + 1) y0 y1 y2 y3 y4 y5)) ∧ (∀ y0 y1 y2, LeO (pumicelaw06_NodeOrder.j3 k y0 y1 y2) (pumicelaw06_NodeOrder.j3 (k + 1) y0 y1 y2))
  | 0 => ⟨fun _ _ _ _ _ _ _ r h => by simp [pumicelaw06_NodeOrder.j0] at h, fun _ _ _ _ _ _ r h => by simp [pumicelaw06_NodeOrder.j1] at h, fun _ _ _ _ _ _ r h => by simp [pumicelaw06_NodeOrder.j2] at h, fun _ _ _ r h => by simp [pumicelaw06_NodeOrder.j3] at h⟩
  | k + 1 => by
    obtain ⟨ih0, ih1, ih2, ih3⟩ := pumicelaw06_NodeOrder.mono_l k
    refine ⟨?_, ?_, ?_, ?_⟩
    · intro y0 y1 y2 y3 y4 y5 y6
      unfold pumicelaw06_NodeOrder.j0
      repeat' first
      | (with_reducible exact ih0 _ _ _ _ _ _ _)
      | (with_reducible exact ih1 _ _ _ _ _ _)
      | (with_reducible exact ih2 _ _ _ _ _ _)
      | (with_reducible exact ih3 _ _ _)
      | (with_reducible exact LeO.refl _)
      | (with_reducible exact LeO.none _)
      | (with_reducible refine LeO.ite ?_ ?_)
      | (with_reducible refine LeO.bind ?_ (fun _ => ?_))
      | exact ih0 _ _ _ _ _ _ _
      | exact ih1 _ _ _ _ _ _
      | exact ih2 _ _ _ _ _ _
      | exact ih3 _ _ _
      | exact LeO.none _
      | refine LeO.ite ?_ ?_
      | refine LeO.bind ?_ (fun _ => ?_)
    · intro y0 y1 y2 y3 y4 y5
      unfold pumicelaw06_NodeOrder.j1
      repeat' first
      | (with_reducible exact ih0 _ _ _ _ _ _ _)
      | (with_reducible exact ih1 _ _ _ _ _ _)
      | (with_reducible exact ih2 _ _ _ _ _ _)
      | (with_reducible exact ih3 _ _ _)
      | (with_reducible exact LeO.refl _)
      | (with_reducible exact LeO.none _)
      | (with_reducible refine LeO.ite ?_ ?_)
      | (with_reducible refine LeO.bind ?_ (fun _ => ?_))
      | exact ih0 _ _ _ _ _ _ _
      | exact ih1 _ _ _ _ _ _
      | exact ih2 _ _ _ _ _ _
      | exact ih3 _ _ _
      | exact LeO.none _
      | refine LeO.ite ?_ ?_
      | refine LeO.bind ?_ (fun _ => ?_)
    · intro y0 y1 y2 y3 y4 y5
      unfold pumicelaw06_NodeOrder.j2
      repeat' first
      | (with_reducible exact ih0 _ _ _ _ _ _ _)
      | (with_reducible exact ih1 _ _ _ _ _ _)
      | (with_reducible exact ih2 _ _ _ _ _ _)
      | (with_reducible exact ih3 _ _ _)
      | (with_reducible exact LeO.refl _)
      | (with_reducible exact LeO.none _)
      | (with_reducible refine LeO.ite ?_ ?_)
      | (with_reducible refine LeO.bind ?_ (fun _ => ?_))
      | exact ih0 _ _ _ _ _ _ _
      | exact ih1 _ _ _ _ _ _
      | exact ih2 _ _ _ _ _ _
      | exact ih3 _ _ _
      | exact LeO.none _
      | refine LeO.ite ?_ ?_
      | refine LeO.bind ?_ (fun _ => ?_)
    · intro y0 y1 y2
      unfold pumicelaw06_NodeOrder.j3
      repeat' first
      | (with_reducible exact ih0 _ _ _ _ _ _ _)
      | (with_reducible exact ih1 _ _ _ _ _ _)
      | (with_reducible exact ih2 _ _ _ _ _ _)
      | (with_reducible exact ih3 _ _ _)
      | (with_reducible exact LeO.refl _)
      | (with_reducible exact LeO.none _)
      | (with_reducible refine LeO.ite ?_ ?_)
      | (with_reducible refine LeO.bind ?_ (fun _ => ?_))
      | exact ih0 _ _ _ _ _ _ _
      | exact ih1 _ _ _ _ _ _
      | exact ih2 _ _ _ _ _ _
      | exact ih3 _ _ _
      | exact LeO.none _
      | refine LeO.ite ?_ ?_
      | refine LeO.bind ?_ (fun _ => ?_)
theorem pumicelaw06_NodeOrder.mono : ∀ a0 a1 a2 a3 a4 a5 k, LeO (pumicelaw06_NodeOrder.f k a0 a1 a2 a3 a4 a5) (pumicelaw06_NodeOrder.f (k + 1) a0 a1 a2 a3 a4 a5) := by
  intro a0 a1 a2 a3 a4 a5 k
  obtain ⟨ih0, ih1, ih2, ih3⟩ := pumicelaw06_NodeOrder.mono_l k
  unfold pumicelaw06_NodeOrder.f
  repeat' first
      | (with_reducible exact ih0 _ _ _ _ _ _ _)
      | (with_reducible exact ih1 _ _ _ _ _ _)
      | (with_reducible exact ih2 _ _ _ _ _ _)
      | (with_reducible exact ih3 _ _ _)
      | (with_reducible exact LeO.refl _)
      | (with_reducible exact LeO.none _)
      | (with_reducible refine LeO.ite ?_ ?_)
      | (with_reducible refine LeO.bind ?_ (fun _ => ?_))
      | exact ih0 _ _ _ _ _ _ _
      | exact ih1 _ _ _ _ _ _
      | exact ih2 _ _ _ _ _ _
      | exact ih3 _ _ _
      | exact LeO.none _
      | refine LeO.ite ?_ ?_
      | refine LeO.bind ?_ (fun _ => ?_)
set_option maxHeartbeats 8000000 in
set_option maxRecDepth 100000 in
theorem pumicelaw06_NodeOrder.calls (k : Nat) (a0 : Int) (a1 : Int) (a2 : ByteArray) (a3 : ByteArray) (a4 : Int) (a5 : Int) (r : Bool) (w : World) (h : pumicelaw06_NodeOrder.f k a0 a1 a2 a3 a4 a5 = some r) :
    Calls Try.prog 3 #[.int .i64 a0, .int .i64 a1, .string a2, .string a3, .int .i64 a4, .int .i64 a5] w fun e w' => e = .returned (.bool r) ∧ Below w.heap.size w w' := by
  have HB := Aside0.mk (Below.refl w.heap.size w)
  have H : (if a0 < 1 then (pumicelaw06_NodeOrder.j0 k a0 a1 a2 a3 a4 a5 true) else (if a0 > 4096 then (pumicelaw06_NodeOrder.j0 k a0 a1 a2 a3 a4 a5 true) else (if a1 < 1 then (pumicelaw06_NodeOrder.j0 k a0 a1 a2 a3 a4 a5 true) else (if a1 > 4096 then (pumicelaw06_NodeOrder.j0 k a0 a1 a2 a3 a4 a5 true) else (if a4 < 0 then (pumicelaw06_NodeOrder.j0 k a0 a1 a2 a3 a4 a5 true) else (if a4 > 127 then (pumicelaw06_NodeOrder.j0 k a0 a1 a2 a3 a4 a5 true) else (if a5 < 0 then (pumicelaw06_NodeOrder.j0 k a0 a1 a2 a3 a4 a5 true) else (pumicelaw06_NodeOrder.j0 k a0 a1 a2 a3 a4 a5 (decide (a5 > 127)))))))))) = some r := h
  clear h
  have HC7 := Aside0.mk H
  clear H
  go_enter Try.func3, Try.ntmps3
  go_upto_region 1 with (fail)
  go_cut [44] (fun v44 wc => ∃ (kq : Nat) (x44_6 : Bool), v44 = .bool x44_6 ∧ Aside0 (pumicelaw06_NodeOrder.j0 kq a0 a1 a2 a3 a4 a5 x44_6 = some r) ∧ Aside0 (kq ≤ k) ∧ Aside0 (Below w.heap.size w wc))
  case first =>
    have H := HC7.out
    clear HC7
    by_cases c8 : a0 < 1
    · rw [if_pos c8] at H
      have c8b0 : decide (a0 < 1) = true := decide_eq_true c8
      clear c8
      (first | rw [c8b0] | (simp only [i64_w, i32_w]; rw [c8b0]) | skip)
      have H' := Aside0.mk H
      clear H
      go_wp2
      go_meet
      case rel => exact ⟨_, (true), (by first | rfl | (simp; done) | (simp [*]; done) | (simp [wrap64]; done)), H', ⟨by first | omega | exact Nat.le_refl _⟩, ⟨by repeat (first | (with_reducible first | exact HB.out | apply below_alloc | apply pw_below_drewN | apply below_drew1) | exact HB.out)⟩⟩
    · rw [if_neg c8] at H
      have c8b0 : decide (a0 < 1) = false := decide_eq_false c8
      clear c8
      (first | rw [c8b0] | (simp only [i64_w, i32_w]; rw [c8b0]) | skip)
      by_cases c9 : a0 > 4096
      · rw [if_pos c9] at H
        have c9b0 : decide (4096 < a0) = true := decide_eq_true c9
        clear c9
        have H' := Aside0.mk H
        clear H
        go_wp2
        go_meet
        case rel => exact ⟨_, (true), (by first | rfl | (simp; done) | (simp [*]; done) | (simp [wrap64]; done)), H', ⟨by first | omega | exact Nat.le_refl _⟩, ⟨by repeat (first | (with_reducible first | exact HB.out | apply below_alloc | apply pw_below_drewN | apply below_drew1) | exact HB.out)⟩⟩
      · rw [if_neg c9] at H
        have c9b0 : decide (4096 < a0) = false := decide_eq_false c9
        clear c9
        by_cases c10 : a1 < 1
        · rw [if_pos c10] at H
          have c10b0 : decide (a1 < 1) = true := decide_eq_true c10
          clear c10
          have H' := Aside0.mk H
          clear H
          go_wp2
          go_meet
          case rel => exact ⟨_, (true), (by first | rfl | (simp; done) | (simp [*]; done) | (simp [wrap64]; done)), H', ⟨by first | omega | exact Nat.le_refl _⟩, ⟨by repeat (first | (with_reducible first | exact HB.out | apply below_alloc | apply pw_below_drewN | apply below_drew1) | exact HB.out)⟩⟩
        · rw [if_neg c10] at H
          have c10b0 : decide (a1 < 1) = false := decide_eq_false c10
          clear c10
          by_cases c11 : a1 > 4096
          · rw [if_pos c11] at H
            have c11b0 : decide (4096 < a1) = true := decide_eq_true c11
            clear c11
            have H' := Aside0.mk H
            clear H
            go_wp2
            go_meet
            case rel => exact ⟨_, (true), (by first | rfl | (simp; done) | (simp [*]; done) | (simp [wrap64]; done)), H', ⟨by first | omega | exact Nat.le_refl _⟩, ⟨by repeat (first | (with_reducible first | exact HB.out | apply below_alloc | apply pw_below_drewN | apply below_drew1) | exact HB.out)⟩⟩
          · rw [if_neg c11] at H
            have c11b0 : decide (4096 < a1) = false := decide_eq_false c11
            clear c11
            by_cases c12 : a4 < 0
            · rw [if_pos c12] at H
              have c12b0 : decide (a4 < 0) = true := decide_eq_true c12
              clear c12
              have H' := Aside0.mk H
              clear H
              go_wp2
              go_meet
              case rel => exact ⟨_, (true), (by first | rfl | (simp; done) | (simp [*]; done) | (simp [wrap64]; done)), H', ⟨by first | omega | exact Nat.le_refl _⟩, ⟨by repeat (first | (with_reducible first | exact HB.out | apply below_alloc | apply pw_below_drewN | apply below_drew1) | exact HB.out)⟩⟩
            · rw [if_neg c12] at H
              have c12b0 : decide (a4 < 0) = false := decide_eq_false c12
              clear c12
              by_cases c13 : a4 > 127
              · rw [if_pos c13] at H
                have c13b0 : decide (127 < a4) = true := decide_eq_true c13
                clear c13
                have H' := Aside0.mk H
                clear H
                go_wp2
                go_meet
                case rel => exact ⟨_, (true), (by first | rfl | (simp; done) | (simp [*]; done) | (simp [wrap64]; done)), H', ⟨by first | omega | exact Nat.le_refl _⟩, ⟨by repeat (first | (with_reducible first | exact HB.out | apply below_alloc | apply pw_below_drewN | apply below_drew1) | exact HB.out)⟩⟩
              · rw [if_neg c13] at H
                have c13b0 : decide (127 < a4) = false := decide_eq_false c13
                clear c13
                by_cases c14 : a5 < 0
                · rw [if_pos c14] at H
                  have c14b0 : decide (a5 < 0) = true := decide_eq_true c14
                  clear c14
                  have H' := Aside0.mk H
                  clear H
                  go_wp2
                  go_meet
                  case rel => exact ⟨_, (true), (by first | rfl | (simp; done) | (simp [*]; done) | (simp [wrap64]; done)), H', ⟨by first | omega | exact Nat.le_refl _⟩, ⟨by repeat (first | (with_reducible first | exact HB.out | apply below_alloc | apply pw_below_drewN | apply below_drew1) | exact HB.out)⟩⟩
                · rw [if_neg c14] at H
                  have c14b0 : decide (a5 < 0) = false := decide_eq_false c14
                  clear c14
                  have H' := Aside0.mk H
                  clear H
                  go_wp2
                  go_meet
                  case rel => exact ⟨_, (decide (a5 > 127)), (by first | rfl | (simp; done) | (simp [*]; done) | (simp [wrap64]; done)), H', ⟨by first | omega | exact Nat.le_refl _⟩, ⟨by repeat (first | (with_reducible first | exact HB.out | apply below_alloc | apply pw_below_drewN | apply below_drew1) | exact HB.out)⟩⟩
  case rest =>
    clear HC7
    try clear c1
    try clear p2
    try clear c3
    try clear p6
    try clear c8
    try clear c8b0
    try clear c9
    try clear c9b0
    try clear c10
    try clear c10b0
    try clear c11
    try clear c11b0
    try clear c12
    try clear c12b0
    try clear c13
    try clear c13b0
    try clear c14
    try clear c14b0
    obtain ⟨kq, x44_6, rfl, HA, HJ6, HB⟩ := hcut
    cases kq with
    | zero => exact absurd HA.out (by simp [pumicelaw06_NodeOrder.j0])
    | succ kj6 =>
      have H := HA.out
      clear HA
      simp only [pumicelaw06_NodeOrder.j0] at H
      by_cases c15 : x44_6 = true
      · subst c15
        have H1 : ((pumicelaw06_alive.f).bind fun t138 => (some t138)) = some r := by rw [if_pos rfl] at H; exact H
        clear H
        have H := H1
        clear H1
        replace H := Option.bind_eq_some_iff.mp H
        obtain ⟨t138, A160, H⟩ := H
        replace H : (some t138) = some r := H
        have A16 := Aside0.mk A160
        clear A160
        obtain rfl := Option.some.inj H
        go_wp2_with (first | ((with_reducible refine gate_callee (f := 10) rfl ?_); refine goesL_ (some 45) rfl rfl Try.func10 (by kernel_rfl) rfl #[] rfl (by (try simp only [List.map_toArray, List.map_cons, List.map_nil]); first | done | rfl | (simp only [List.length_drop, List.length_take]; rfl)) ?_; (with_reducible refine (pumicelaw06_alive.calls  t138 _ A16.out).mono ?_); rintro e w17 ⟨rfl, hb⟩; refine ⟨_, rfl, ?_⟩; have n0_ := Aside0.mk (below_step (by repeat (first | (with_reducible first | exact HB.out | apply below_alloc | apply pw_below_drewN | apply below_drew1) | exact HB.out)) hb); clear HB; have HB := n0_; clear n0_; (try clear hb); (try clear hb2); (try clear hk); (try clear hi)))
        go_ret
        exact ⟨by first | rfl | exact isEmpty_bne_ _ | (simp [errW_none, errW_some] <;> rfl) | (simp [*, errW_none, errW_some] <;> rfl), by repeat (first | (with_reducible first | exact HB.out | apply below_alloc | apply pw_below_drewN | apply below_drew1) | exact HB.out)⟩
      · replace c15 := Bool.eq_false_iff.mpr c15
        subst c15
        have H1 : ((names_Less.f a2 a3).bind fun t139 => ((node_EntryKey.f a0 a2).bind fun t140 => ((node_EntryKey.f a0 a3).bind fun t141 => ((names_Less.f t140 t141).bind fun t142 => (if (t139 != t142) = true then (pumicelaw06_NodeOrder.j1 kj6 a0 a1 a2 a4 a5 true) else ((node_BlockKey.f a0 a4).bind fun t143 => ((node_BlockKey.f a0 a5).bind fun t144 => ((names_Less.f t143 t144).bind fun t145 => (pumicelaw06_NodeOrder.j1 kj6 a0 a1 a2 a4 a5 ((decide (a4 < a5)) != t145)))))))))) = some r := by rw [if_neg (show ¬ (false = true) by decide)] at H; exact H
        clear H
        have H := H1
        clear H1
        have HC18 := Aside0.mk H
        clear H
        go_upto_region 3 with (fail)
        go_cut [69] (fun v69 wc => ∃ (kq : Nat) (x69_17 : Bool), v69 = .bool x69_17 ∧ Aside0 (pumicelaw06_NodeOrder.j1 kq a0 a1 a2 a4 a5 x69_17 = some r) ∧ Aside0 (kq ≤ kj6) ∧ Aside0 (Below w.heap.size w wc))
        case first =>
          have H := HC18.out
          clear HC18
          replace H := Option.bind_eq_some_iff.mp H
          obtain ⟨t139, A190, H⟩ := H
          replace H : ((node_EntryKey.f a0 a2).bind fun t140 => ((node_EntryKey.f a0 a3).bind fun t141 => ((names_Less.f t140 t141).bind fun t142 => (if (t139 != t142) = true then (pumicelaw06_NodeOrder.j1 kj6 a0 a1 a2 a4 a5 true) else ((node_BlockKey.f a0 a4).bind fun t143 => ((node_BlockKey.f a0 a5).bind fun t144 => ((names_Less.f t143 t144).bind fun t145 => (pumicelaw06_NodeOrder.j1 kj6 a0 a1 a2 a4 a5 ((decide (a4 < a5)) != t145))))))))) = some r := H
          have A19 := Aside0.mk A190
          clear A190
          replace H := Option.bind_eq_some_iff.mp H
          obtain ⟨t140, A200, H⟩ := H
          replace H : ((node_EntryKey.f a0 a3).bind fun t141 => ((names_Less.f t140 t141).bind fun t142 => (if (t139 != t142) = true then (pumicelaw06_NodeOrder.j1 kj6 a0 a1 a2 a4 a5 true) else ((node_BlockKey.f a0 a4).bind fun t143 => ((node_BlockKey.f a0 a5).bind fun t144 => ((names_Less.f t143 t144).bind fun t145 => (pumicelaw06_NodeOrder.j1 kj6 a0 a1 a2 a4 a5 ((decide (a4 < a5)) != t145)))))))) = some r := H
          have A20 := Aside0.mk A200
          clear A200
          replace H := Option.bind_eq_some_iff.mp H
          obtain ⟨t141, A210, H⟩ := H
          replace H : ((names_Less.f t140 t141).bind fun t142 => (if (t139 != t142) = true then (pumicelaw06_NodeOrder.j1 kj6 a0 a1 a2 a4 a5 true) else ((node_BlockKey.f a0 a4).bind fun t143 => ((node_BlockKey.f a0 a5).bind fun t144 => ((names_Less.f t143 t144).bind fun t145 => (pumicelaw06_NodeOrder.j1 kj6 a0 a1 a2 a4 a5 ((decide (a4 < a5)) != t145))))))) = some r := H
          have A21 := Aside0.mk A210
          clear A210
          replace H := Option.bind_eq_some_iff.mp H
          obtain ⟨t142, A220, H⟩ := H
          replace H : (if (t139 != t142) = true then (pumicelaw06_NodeOrder.j1 kj6 a0 a1 a2 a4 a5 true) else ((node_BlockKey.f a0 a4).bind fun t143 => ((node_BlockKey.f a0 a5).bind fun t144 => ((names_Less.f t143 t144).bind fun t145 => (pumicelaw06_NodeOrder.j1 kj6 a0 a1 a2 a4 a5 ((decide (a4 < a5)) != t145)))))) = some r := H
          have A22 := Aside0.mk A220
          clear A220
          by_cases c23 : (t139 != t142) = true
          · rw [if_pos c23] at H
            have c23b0 : (t139 != t142) = true := c23
            (try (have c23b1 : decide (t139 = t142) = false := by simpa using c23))
            (try (have c23b2 : (t139 == t142) = false := by simpa using c23))
            (try (have c23b3 : ¬ (t139 = t142) := by simpa using c23))
            clear c23
            (first | rw [c23b0] | (simp only [i64_w, i32_w]; rw [c23b0]) | skip)
            have H' := Aside0.mk H
            clear H
            go_wp2_with (first | ((with_reducible refine gate_callee (f := 11) rfl ?_); refine goesL_ (some 48) rfl rfl Try.func11 (by kernel_rfl) rfl #[.string a2, .string a3] rfl (by (try simp only [List.map_toArray, List.map_cons, List.map_nil]); first | done | rfl | (simp only [List.length_drop, List.length_take]; rfl)) ?_; (with_reducible refine (names_Less.calls a2 a3 t139 _ A19.out).mono ?_); rintro e w' ⟨rfl, ⟨nd, rfl⟩⟩; refine ⟨_, rfl, ?_⟩) | ((with_reducible refine gate_callee (f := 12) rfl ?_); refine goesL_ (some 51) rfl rfl Try.func12 (by kernel_rfl) rfl #[.int .i64 a0, .string a2] rfl (by (try simp only [List.map_toArray, List.map_cons, List.map_nil]); first | done | rfl | (simp only [List.length_drop, List.length_take]; rfl)) ?_; (with_reducible refine (node_EntryKey.calls a0 a2 t140 _ A20.out).mono ?_); rintro e w24 ⟨rfl, hb⟩; refine ⟨_, rfl, ?_⟩; have n0_ := Aside0.mk (below_step (by repeat (first | (with_reducible first | exact HB.out | apply below_alloc | apply pw_below_drewN | apply below_drew1) | exact HB.out)) hb); clear HB; have HB := n0_; clear n0_; (try clear hb); (try clear hb2); (try clear hk); (try clear hi)) | ((with_reducible refine gate_callee (f := 12) rfl ?_); refine goesL_ (some 54) rfl rfl Try.func12 (by kernel_rfl) rfl #[.int .i64 a0, .string a3] rfl (by (try simp only [List.map_toArray, List.map_cons, List.map_nil]); first | done | rfl | (simp only [List.length_drop, List.length_take]; rfl)) ?_; (with_reducible refine (node_EntryKey.calls a0 a3 t141 _ A21.out).mono ?_); rintro e w25 ⟨rfl, hb⟩; refine ⟨_, rfl, ?_⟩; have n0_ := Aside0.mk (below_step (by repeat (first | (with_reducible first | exact HB.out | apply below_alloc | apply pw_below_drewN | apply below_drew1) | exact HB.out)) hb); clear HB; have HB := n0_; clear n0_; (try clear hb); (try clear hb2); (try clear hk); (try clear hi)) | ((with_reducible refine gate_callee (f := 11) rfl ?_); refine goesL_ (some 55) rfl rfl Try.func11 (by kernel_rfl) rfl #[.string t140, .string t141] rfl (by (try simp only [List.map_toArray, List.map_cons, List.map_nil]); first | done | rfl | (simp only [List.length_drop, List.length_take]; rfl)) ?_; (with_reducible refine (names_Less.calls t140 t141 t142 _ A22.out).mono ?_); rintro e w' ⟨rfl, ⟨nd, rfl⟩⟩; refine ⟨_, rfl, ?_⟩))
            go_meet
            case rel => exact ⟨_, (true), (by first | rfl | (simp; done) | (simp [*]; done) | (simp [wrap64]; done)), H', ⟨by have := HJ6.out; first | omega | exact Nat.le_refl _⟩, ⟨by repeat (first | (with_reducible first | exact HB.out | apply below_alloc | apply pw_below_drewN | apply below_drew1) | exact HB.out)⟩⟩
          · rw [if_neg c23] at H
            have c23b0 : (t139 != t142) = false := by simpa using c23
            (try (have c23b1 : decide (t139 = t142) = true := by simpa using c23))
            (try (have c23b2 : (t139 == t142) = true := by simpa using c23))
            clear c23
            (first | rw [c23b0] | (simp only [i64_w, i32_w]; rw [c23b0]) | skip)
            replace H := Option.bind_eq_some_iff.mp H
            obtain ⟨t143, A260, H⟩ := H
            replace H : ((node_BlockKey.f a0 a5).bind fun t144 => ((names_Less.f t143 t144).bind fun t145 => (pumicelaw06_NodeOrder.j1 kj6 a0 a1 a2 a4 a5 ((decide (a4 < a5)) != t145)))) = some r := H
            have A26 := Aside0.mk A260
            clear A260
            replace H := Option.bind_eq_some_iff.mp H
            obtain ⟨t144, A270, H⟩ := H
            replace H : ((names_Less.f t143 t144).bind fun t145 => (pumicelaw06_NodeOrder.j1 kj6 a0 a1 a2 a4 a5 ((decide (a4 < a5)) != t145))) = some r := H
            have A27 := Aside0.mk A270
            clear A270
            replace H := Option.bind_eq_some_iff.mp H
            obtain ⟨t145, A280, H⟩ := H
            replace H : (pumicelaw06_NodeOrder.j1 kj6 a0 a1 a2 a4 a5 ((decide (a4 < a5)) != t145)) = some r := H
            have A28 := Aside0.mk A280
            clear A280
            have H' := Aside0.mk H
            clear H
            go_wp2_with (first | ((with_reducible refine gate_callee (f := 11) rfl ?_); refine goesL_ (some 48) rfl rfl Try.func11 (by kernel_rfl) rfl #[.string a2, .string a3] rfl (by (try simp only [List.map_toArray, List.map_cons, List.map_nil]); first | done | rfl | (simp only [List.length_drop, List.length_take]; rfl)) ?_; (with_reducible refine (names_Less.calls a2 a3 t139 _ A19.out).mono ?_); rintro e w' ⟨rfl, ⟨nd, rfl⟩⟩; refine ⟨_, rfl, ?_⟩) | ((with_reducible refine gate_callee (f := 12) rfl ?_); refine goesL_ (some 51) rfl rfl Try.func12 (by kernel_rfl) rfl #[.int .i64 a0, .string a2] rfl (by (try simp only [List.map_toArray, List.map_cons, List.map_nil]); first | done | rfl | (simp only [List.length_drop, List.length_take]; rfl)) ?_; (with_reducible refine (node_EntryKey.calls a0 a2 t140 _ A20.out).mono ?_); rintro e w29 ⟨rfl, hb⟩; refine ⟨_, rfl, ?_⟩; have n0_ := Aside0.mk (below_step (by repeat (first | (with_reducible first | exact HB.out | apply below_alloc | apply pw_below_drewN | apply below_drew1) | exact HB.out)) hb); clear HB; have HB := n0_; clear n0_; (try clear hb); (try clear hb2); (try clear hk); (try clear hi)) | ((with_reducible refine gate_callee (f := 12) rfl ?_); refine goesL_ (some 54) rfl rfl Try.func12 (by kernel_rfl) rfl #[.int .i64 a0, .string a3] rfl (by (try simp only [List.map_toArray, List.map_cons, List.map_nil]); first | done | rfl | (simp only [List.length_drop, List.length_take]; rfl)) ?_; (with_reducible refine (node_EntryKey.calls a0 a3 t141 _ A21.out).mono ?_); rintro e w30 ⟨rfl, hb⟩; refine ⟨_, rfl, ?_⟩; have n0_ := Aside0.mk (below_step (by repeat (first | (with_reducible first | exact HB.out | apply below_alloc | apply pw_below_drewN | apply below_drew1) | exact HB.out)) hb); clear HB; have HB := n0_; clear n0_; (try clear hb); (try clear hb2); (try clear hk); (try clear hi)) | ((with_reducible refine gate_callee (f := 11) rfl ?_); refine goesL_ (some 55) rfl rfl Try.func11 (by kernel_rfl) rfl #[.string t140, .string t141] rfl (by (try simp only [List.map_toArray, List.map_cons, List.map_nil]); first | done | rfl | (simp only [List.length_drop, List.length_take]; rfl)) ?_; (with_reducible refine (names_Less.calls t140 t141 t142 _ A22.out).mono ?_); rintro e w' ⟨rfl, ⟨nd, rfl⟩⟩; refine ⟨_, rfl, ?_⟩) | (go_at_call 13; (with_reducible refine (node_BlockKey.calls a0 a4 t143 _ A26.out).mono ?_); rintro e w31 ⟨rfl, hb⟩; have n0_ := Aside0.mk (below_step (by repeat (first | (with_reducible first | exact HB.out | apply below_alloc | apply pw_below_drewN | apply below_drew1) | exact HB.out)) hb); clear HB; have HB := n0_; clear n0_; (try clear hb); (try clear hb2); (try clear hk); (try clear hi)) | (go_at_call 13; (with_reducible refine (node_BlockKey.calls a0 a5 t144 _ A27.out).mono ?_); rintro e w32 ⟨rfl, hb⟩; have n0_ := Aside0.mk (below_step (by repeat (first | (with_reducible first | exact HB.out | apply below_alloc | apply pw_below_drewN | apply below_drew1) | exact HB.out)) hb); clear HB; have HB := n0_; clear n0_; (try clear hb); (try clear hb2); (try clear hk); (try clear hi)) | (go_at_call 11; (with_reducible refine (names_Less.calls t143 t144 t145 _ A28.out).mono ?_); rintro e w' ⟨rfl, ⟨nd, rfl⟩⟩))
            go_meet
            case rel => exact ⟨_, (((decide (a4 < a5)) != t145)), (by first | rfl | (simp; done) | (simp [*]; done) | (simp [wrap64]; done)), H', ⟨by have := HJ6.out; first | omega | exact Nat.le_refl _⟩, ⟨by repeat (first | (with_reducible first | exact HB.out | apply below_alloc | apply pw_below_drewN | apply below_drew1) | exact HB.out)⟩⟩
        case rest =>
          clear HC18
          try clear c1
          try clear c2
          try clear p2
          try clear c3
          try clear p6
          try clear c8
          try clear c8b0
          try clear c9
          try clear c9b0
          try clear c10
          try clear c10b0
          try clear c11
          try clear c11b0
          try clear c12
          try clear c12b0
          try clear c13
          try clear c13b0
          try clear c14
          try clear c14b0
          try clear c15
          try clear c23
          try clear c23b0
          try clear c23b1
          try clear c23b2
          try clear p2
          try clear p6
          obtain ⟨kq, x69_17, rfl, HA, HJ17, HB⟩ := hcut
          cases kq with
          | zero => exact absurd HA.out (by simp [pumicelaw06_NodeOrder.j1])
          | succ kj17 =>
            have H := HA.out
            clear HA
            simp only [pumicelaw06_NodeOrder.j1] at H
            by_cases c33 : x69_17 = true
            · subst c33
              have H1 : (none) = some r := by rw [if_pos rfl] at H; exact H
              clear H
              have H := H1
              clear H1
              exact absurd H (by simp)
            · replace c33 := Bool.eq_false_iff.mpr c33
              subst c33
              have H1 : ((node_From.f a0 2).bind fun bt146 => ((node_EntryKey.f a0 a2).bind fun t148 => ((pumicelaw06_within.f t148 bt146.1 bt146.2).bind fun t149 => (if t149 = true then ((node_InodeKey.f a0).bind fun t150 => ((pumicelaw06_within.f t150 bt146.1 bt146.2).bind fun t151 => (if t151 = true then (pumicelaw06_NodeOrder.j2 kj17 a0 a1 a2 a4 a5 true) else ((node_BlockKey.f a0 a4).bind fun t152 => ((pumicelaw06_within.f t152 bt146.1 bt146.2).bind fun t153 => (if t153 = true then (pumicelaw06_NodeOrder.j2 kj17 a0 a1 a2 a4 a5 true) else ((node_OrphanKey.f a0).bind fun t154 => ((pumicelaw06_within.f t154 bt146.1 bt146.2).bind fun t155 => (if t155 = true then (pumicelaw06_NodeOrder.j2 kj17 a0 a1 a2 a4 a5 true) else ((node_EntryKey.f a1 a2).bind fun t156 => ((pumicelaw06_within.f t156 bt146.1 bt146.2).bind fun t157 => (pumicelaw06_NodeOrder.j2 kj17 a0 a1 a2 a4 a5 ((a1 != a0) == t157))))))))))))) else (pumicelaw06_NodeOrder.j2 kj17 a0 a1 a2 a4 a5 true))))) = some r := by rw [if_neg (show ¬ (false = true) by decide)] at H; exact H
              clear H
              have H := H1
              clear H1
              replace H := Option.bind_eq_some_iff.mp H
              obtain ⟨⟨t146, t147⟩, A340, H⟩ := H
              replace H : ((node_EntryKey.f a0 a2).bind fun t148 => ((pumicelaw06_within.f t148 t146 t147).bind fun t149 => (if t149 = true then ((node_InodeKey.f a0).bind fun t150 => ((pumicelaw06_within.f t150 t146 t147).bind fun t151 => (if t151 = true then (pumicelaw06_NodeOrder.j2 kj17 a0 a1 a2 a4 a5 true) else ((node_BlockKey.f a0 a4).bind fun t152 => ((pumicelaw06_within.f t152 t146 t147).bind fun t153 => (if t153 = true then (pumicelaw06_NodeOrder.j2 kj17 a0 a1 a2 a4 a5 true) else ((node_OrphanKey.f a0).bind fun t154 => ((pumicelaw06_within.f t154 t146 t147).bind fun t155 => (if t155 = true then (pumicelaw06_NodeOrder.j2 kj17 a0 a1 a2 a4 a5 true) else ((node_EntryKey.f a1 a2).bind fun t156 => ((pumicelaw06_within.f t156 t146 t147).bind fun t157 => (pumicelaw06_NodeOrder.j2 kj17 a0 a1 a2 a4 a5 ((a1 != a0) == t157))))))))))))) else (pumicelaw06_NodeOrder.j2 kj17 a0 a1 a2 a4 a5 true)))) = some r := H
              have A34 := Aside0.mk A340
              clear A340
              have HC35 := Aside0.mk H
              clear H
              go_upto_region 6 with (first | ((with_reducible refine gate_callee (f := 14) rfl ?_); refine goesL_ (some 72) rfl rfl Try.func14 (by kernel_rfl) rfl #[.int .i64 a0, .int .i64 2] rfl (by (try simp only [List.map_toArray, List.map_cons, List.map_nil]); first | done | rfl | (simp only [List.length_drop, List.length_take]; rfl)) ?_; (with_reducible refine (node_From.calls a0 2 t146 t147 _ A34.out).mono ?_); rintro e w36 ⟨rfl, hb⟩; refine ⟨_, rfl, ?_⟩; have n0_ := Aside0.mk (below_step (by repeat (first | (with_reducible first | exact HB.out | apply below_alloc | apply pw_below_drewN | apply below_drew1) | exact HB.out)) hb); clear HB; have HB := n0_; clear n0_; (try clear hb); (try clear hb2); (try clear hk); (try clear hi)))
              (try simp only [Act.put, List.setIfInBounds_toArray, List.set_cons_zero, List.set_cons_succ])
              go_cut [115] (fun v115 wc => ∃ (kq : Nat) (x115_34 : Bool), v115 = .bool x115_34 ∧ Aside0 (pumicelaw06_NodeOrder.j2 kq a0 a1 a2 a4 a5 x115_34 = some r) ∧ Aside0 (kq ≤ kj17) ∧ Aside0 (Below w.heap.size w wc))
              case first =>
                have H := HC35.out
                clear HC35
                replace H := Option.bind_eq_some_iff.mp H
                obtain ⟨t148, A370, H⟩ := H
                replace H : ((pumicelaw06_within.f t148 t146 t147).bind fun t149 => (if t149 = true then ((node_InodeKey.f a0).bind fun t150 => ((pumicelaw06_within.f t150 t146 t147).bind fun t151 => (if t151 = true then (pumicelaw06_NodeOrder.j2 kj17 a0 a1 a2 a4 a5 true) else ((node_BlockKey.f a0 a4).bind fun t152 => ((pumicelaw06_within.f t152 t146 t147).bind fun t153 => (if t153 = true then (pumicelaw06_NodeOrder.j2 kj17 a0 a1 a2 a4 a5 true) else ((node_OrphanKey.f a0).bind fun t154 => ((pumicelaw06_within.f t154 t146 t147).bind fun t155 => (if t155 = true then (pumicelaw06_NodeOrder.j2 kj17 a0 a1 a2 a4 a5 true) else ((node_EntryKey.f a1 a2).bind fun t156 => ((pumicelaw06_within.f t156 t146 t147).bind fun t157 => (pumicelaw06_NodeOrder.j2 kj17 a0 a1 a2 a4 a5 ((a1 != a0) == t157))))))))))))) else (pumicelaw06_NodeOrder.j2 kj17 a0 a1 a2 a4 a5 true))) = some r := H
                have A37 := Aside0.mk A370
                clear A370
                replace H := Option.bind_eq_some_iff.mp H
                obtain ⟨t149, A380, H⟩ := H
                replace H : (if t149 = true then ((node_InodeKey.f a0).bind fun t150 => ((pumicelaw06_within.f t150 t146 t147).bind fun t151 => (if t151 = true then (pumicelaw06_NodeOrder.j2 kj17 a0 a1 a2 a4 a5 true) else ((node_BlockKey.f a0 a4).bind fun t152 => ((pumicelaw06_within.f t152 t146 t147).bind fun t153 => (if t153 = true then (pumicelaw06_NodeOrder.j2 kj17 a0 a1 a2 a4 a5 true) else ((node_OrphanKey.f a0).bind fun t154 => ((pumicelaw06_within.f t154 t146 t147).bind fun t155 => (if t155 = true then (pumicelaw06_NodeOrder.j2 kj17 a0 a1 a2 a4 a5 true) else ((node_EntryKey.f a1 a2).bind fun t156 => ((pumicelaw06_within.f t156 t146 t147).bind fun t157 => (pumicelaw06_NodeOrder.j2 kj17 a0 a1 a2 a4 a5 ((a1 != a0) == t157))))))))))))) else (pumicelaw06_NodeOrder.j2 kj17 a0 a1 a2 a4 a5 true)) = some r := H
                have A38 := Aside0.mk A380
                clear A380
                by_cases c39 : t149 = true
                · subst c39
                  have H1 : ((node_InodeKey.f a0).bind fun t150 => ((pumicelaw06_within.f t150 t146 t147).bind fun t151 => (if t151 = true then (pumicelaw06_NodeOrder.j2 kj17 a0 a1 a2 a4 a5 true) else ((node_BlockKey.f a0 a4).bind fun t152 => ((pumicelaw06_within.f t152 t146 t147).bind fun t153 => (if t153 = true then (pumicelaw06_NodeOrder.j2 kj17 a0 a1 a2 a4 a5 true) else ((node_OrphanKey.f a0).bind fun t154 => ((pumicelaw06_within.f t154 t146 t147).bind fun t155 => (if t155 = true then (pumicelaw06_NodeOrder.j2 kj17 a0 a1 a2 a4 a5 true) else ((node_EntryKey.f a1 a2).bind fun t156 => ((pumicelaw06_within.f t156 t146 t147).bind fun t157 => (pumicelaw06_NodeOrder.j2 kj17 a0 a1 a2 a4 a5 ((a1 != a0) == t157))))))))))))) = some r := by rw [if_pos rfl] at H; exact H
                  clear H
                  have H := H1
                  clear H1
                  replace H := Option.bind_eq_some_iff.mp H
                  obtain ⟨t150, A400, H⟩ := H
                  replace H : ((pumicelaw06_within.f t150 t146 t147).bind fun t151 => (if t151 = true then (pumicelaw06_NodeOrder.j2 kj17 a0 a1 a2 a4 a5 true) else ((node_BlockKey.f a0 a4).bind fun t152 => ((pumicelaw06_within.f t152 t146 t147).bind fun t153 => (if t153 = true then (pumicelaw06_NodeOrder.j2 kj17 a0 a1 a2 a4 a5 true) else ((node_OrphanKey.f a0).bind fun t154 => ((pumicelaw06_within.f t154 t146 t147).bind fun t155 => (if t155 = true then (pumicelaw06_NodeOrder.j2 kj17 a0 a1 a2 a4 a5 true) else ((node_EntryKey.f a1 a2).bind fun t156 => ((pumicelaw06_within.f t156 t146 t147).bind fun t157 => (pumicelaw06_NodeOrder.j2 kj17 a0 a1 a2 a4 a5 ((a1 != a0) == t157)))))))))))) = some r := H
                  have A40 := Aside0.mk A400
                  clear A400
                  replace H := Option.bind_eq_some_iff.mp H
                  obtain ⟨t151, A410, H⟩ := H
                  replace H : (if t151 = true then (pumicelaw06_NodeOrder.j2 kj17 a0 a1 a2 a4 a5 true) else ((node_BlockKey.f a0 a4).bind fun t152 => ((pumicelaw06_within.f t152 t146 t147).bind fun t153 => (if t153 = true then (pumicelaw06_NodeOrder.j2 kj17 a0 a1 a2 a4 a5 true) else ((node_OrphanKey.f a0).bind fun t154 => ((pumicelaw06_within.f t154 t146 t147).bind fun t155 => (if t155 = true then (pumicelaw06_NodeOrder.j2 kj17 a0 a1 a2 a4 a5 true) else ((node_EntryKey.f a1 a2).bind fun t156 => ((pumicelaw06_within.f t156 t146 t147).bind fun t157 => (pumicelaw06_NodeOrder.j2 kj17 a0 a1 a2 a4 a5 ((a1 != a0) == t157))))))))))) = some r := H
                  have A41 := Aside0.mk A410
                  clear A410
                  by_cases c42 : t151 = true
                  · subst c42
                    have H1 : (pumicelaw06_NodeOrder.j2 kj17 a0 a1 a2 a4 a5 true) = some r := by rw [if_pos rfl] at H; exact H
                    clear H
                    have H := H1
                    clear H1
                    have H' := Aside0.mk H
                    clear H
                    go_wp2_with (first | ((with_reducible refine gate_callee (f := 12) rfl ?_); refine goesL_ (some 77) rfl rfl Try.func12 (by kernel_rfl) rfl #[.int .i64 a0, .string a2] rfl (by (try simp only [List.map_toArray, List.map_cons, List.map_nil]); first | done | rfl | (simp only [List.length_drop, List.length_take]; rfl)) ?_; (with_reducible refine (node_EntryKey.calls a0 a2 t148 _ A37.out).mono ?_); rintro e w43 ⟨rfl, hb⟩; refine ⟨_, rfl, ?_⟩; have n0_ := Aside0.mk (below_step (by repeat (first | (with_reducible first | exact HB.out | apply below_alloc | apply pw_below_drewN | apply below_drew1) | exact HB.out)) hb); clear HB; have HB := n0_; clear n0_; (try clear hb); (try clear hb2); (try clear hk); (try clear hi)) | ((with_reducible refine gate_callee (f := 15) rfl ?_); refine goesL_ (some 80) rfl rfl Try.func15 (by kernel_rfl) rfl #[.string t148, .string t146, .string t147] rfl (by (try simp only [List.map_toArray, List.map_cons, List.map_nil]); first | done | rfl | (simp only [List.length_drop, List.length_take]; rfl)) ?_; (with_reducible refine (pumicelaw06_within.calls t148 t146 t147 true _ A38.out).mono ?_); rintro e w' ⟨rfl, ⟨nd, rfl⟩⟩; refine ⟨_, rfl, ?_⟩) | (go_at_call 16; (with_reducible refine (node_InodeKey.calls a0 t150 _ A40.out).mono ?_); rintro e w44 ⟨rfl, hb⟩; have n0_ := Aside0.mk (below_step (by repeat (first | (with_reducible first | exact HB.out | apply below_alloc | apply pw_below_drewN | apply below_drew1) | exact HB.out)) hb); clear HB; have HB := n0_; clear n0_; (try clear hb); (try clear hb2); (try clear hk); (try clear hi)) | (go_at_call 15; (with_reducible refine (pumicelaw06_within.calls t150 t146 t147 true _ A41.out).mono ?_); rintro e w' ⟨rfl, ⟨nd, rfl⟩⟩))
                    go_meet
                    case rel => exact ⟨_, (true), (by first | rfl | (simp; done) | (simp [*]; done) | (simp [wrap64]; done)), H', ⟨by have := HJ6.out; have := HJ17.out; first | omega | exact Nat.le_refl _⟩, ⟨by repeat (first | (with_reducible first | exact HB.out | apply below_alloc | apply pw_below_drewN | apply below_drew1) | exact HB.out)⟩⟩
                  · replace c42 := Bool.eq_false_iff.mpr c42
                    subst c42
                    have H1 : ((node_BlockKey.f a0 a4).bind fun t152 => ((pumicelaw06_within.f t152 t146 t147).bind fun t153 => (if t153 = true then (pumicelaw06_NodeOrder.j2 kj17 a0 a1 a2 a4 a5 true) else ((node_OrphanKey.f a0).bind fun t154 => ((pumicelaw06_within.f t154 t146 t147).bind fun t155 => (if t155 = true then (pumicelaw06_NodeOrder.j2 kj17 a0 a1 a2 a4 a5 true) else ((node_EntryKey.f a1 a2).bind fun t156 => ((pumicelaw06_within.f t156 t146 t147).bind fun t157 => (pumicelaw06_NodeOrder.j2 kj17 a0 a1 a2 a4 a5 ((a1 != a0) == t157)))))))))) = some r := by rw [if_neg (show ¬ (false = true) by decide)] at H; exact H
                    clear H
                    have H := H1
                    clear H1
                    replace H := Option.bind_eq_some_iff.mp H
                    obtain ⟨t152, A450, H⟩ := H
                    replace H : ((pumicelaw06_within.f t152 t146 t147).bind fun t153 => (if t153 = true then (pumicelaw06_NodeOrder.j2 kj17 a0 a1 a2 a4 a5 true) else ((node_OrphanKey.f a0).bind fun t154 => ((pumicelaw06_within.f t154 t146 t147).bind fun t155 => (if t155 = true then (pumicelaw06_NodeOrder.j2 kj17 a0 a1 a2 a4 a5 true) else ((node_EntryKey.f a1 a2).bind fun t156 => ((pumicelaw06_within.f t156 t146 t147).bind fun t157 => (pumicelaw06_NodeOrder.j2 kj17 a0 a1 a2 a4 a5 ((a1 != a0) == t157))))))))) = some r := H
                    have A45 := Aside0.mk A450
                    clear A450
                    replace H := Option.bind_eq_some_iff.mp H
                    obtain ⟨t153, A460, H⟩ := H
                    replace H : (if t153 = true then (pumicelaw06_NodeOrder.j2 kj17 a0 a1 a2 a4 a5 true) else ((node_OrphanKey.f a0).bind fun t154 => ((pumicelaw06_within.f t154 t146 t147).bind fun t155 => (if t155 = true then (pumicelaw06_NodeOrder.j2 kj17 a0 a1 a2 a4 a5 true) else ((node_EntryKey.f a1 a2).bind fun t156 => ((pumicelaw06_within.f t156 t146 t147).bind fun t157 => (pumicelaw06_NodeOrder.j2 kj17 a0 a1 a2 a4 a5 ((a1 != a0) == t157)))))))) = some r := H
                    have A46 := Aside0.mk A460
                    clear A460
                    by_cases c47 : t153 = true
                    · subst c47
                      have H1 : (pumicelaw06_NodeOrder.j2 kj17 a0 a1 a2 a4 a5 true) = some r := by rw [if_pos rfl] at H; exact H
                      clear H
                      have H := H1
                      clear H1
                      have H' := Aside0.mk H
                      clear H
                      go_wp2_with (first | ((with_reducible refine gate_callee (f := 12) rfl ?_); refine goesL_ (some 77) rfl rfl Try.func12 (by kernel_rfl) rfl #[.int .i64 a0, .string a2] rfl (by (try simp only [List.map_toArray, List.map_cons, List.map_nil]); first | done | rfl | (simp only [List.length_drop, List.length_take]; rfl)) ?_; (with_reducible refine (node_EntryKey.calls a0 a2 t148 _ A37.out).mono ?_); rintro e w48 ⟨rfl, hb⟩; refine ⟨_, rfl, ?_⟩; have n0_ := Aside0.mk (below_step (by repeat (first | (with_reducible first | exact HB.out | apply below_alloc | apply pw_below_drewN | apply below_drew1) | exact HB.out)) hb); clear HB; have HB := n0_; clear n0_; (try clear hb); (try clear hb2); (try clear hk); (try clear hi)) | ((with_reducible refine gate_callee (f := 15) rfl ?_); refine goesL_ (some 80) rfl rfl Try.func15 (by kernel_rfl) rfl #[.string t148, .string t146, .string t147] rfl (by (try simp only [List.map_toArray, List.map_cons, List.map_nil]); first | done | rfl | (simp only [List.length_drop, List.length_take]; rfl)) ?_; (with_reducible refine (pumicelaw06_within.calls t148 t146 t147 true _ A38.out).mono ?_); rintro e w' ⟨rfl, ⟨nd, rfl⟩⟩; refine ⟨_, rfl, ?_⟩) | (go_at_call 16; (with_reducible refine (node_InodeKey.calls a0 t150 _ A40.out).mono ?_); rintro e w49 ⟨rfl, hb⟩; have n0_ := Aside0.mk (below_step (by repeat (first | (with_reducible first | exact HB.out | apply below_alloc | apply pw_below_drewN | apply below_drew1) | exact HB.out)) hb); clear HB; have HB := n0_; clear n0_; (try clear hb); (try clear hb2); (try clear hk); (try clear hi)) | (go_at_call 15; (with_reducible refine (pumicelaw06_within.calls t150 t146 t147 false _ A41.out).mono ?_); rintro e w' ⟨rfl, ⟨nd, rfl⟩⟩) | (go_at_call 13; (with_reducible refine (node_BlockKey.calls a0 a4 t152 _ A45.out).mono ?_); rintro e w50 ⟨rfl, hb⟩; have n0_ := Aside0.mk (below_step (by repeat (first | (with_reducible first | exact HB.out | apply below_alloc | apply pw_below_drewN | apply below_drew1) | exact HB.out)) hb); clear HB; have HB := n0_; clear n0_; (try clear hb); (try clear hb2); (try clear hk); (try clear hi)) | (go_at_call 15; (with_reducible refine (pumicelaw06_within.calls t152 t146 t147 true _ A46.out).mono ?_); rintro e w' ⟨rfl, ⟨nd, rfl⟩⟩))
                      go_meet
                      case rel => exact ⟨_, (true), (by first | rfl | (simp; done) | (simp [*]; done) | (simp [wrap64]; done)), H', ⟨by have := HJ6.out; have := HJ17.out; first | omega | exact Nat.le_refl _⟩, ⟨by repeat (first | (with_reducible first | exact HB.out | apply below_alloc | apply pw_below_drewN | apply below_drew1) | exact HB.out)⟩⟩
                    · replace c47 := Bool.eq_false_iff.mpr c47
                      subst c47
                      have H1 : ((node_OrphanKey.f a0).bind fun t154 => ((pumicelaw06_within.f t154 t146 t147).bind fun t155 => (if t155 = true then (pumicelaw06_NodeOrder.j2 kj17 a0 a1 a2 a4 a5 true) else ((node_EntryKey.f a1 a2).bind fun t156 => ((pumicelaw06_within.f t156 t146 t147).bind fun t157 => (pumicelaw06_NodeOrder.j2 kj17 a0 a1 a2 a4 a5 ((a1 != a0) == t157))))))) = some r := by rw [if_neg (show ¬ (false = true) by decide)] at H; exact H
                      clear H
                      have H := H1
                      clear H1
                      replace H := Option.bind_eq_some_iff.mp H
                      obtain ⟨t154, A510, H⟩ := H
                      replace H : ((pumicelaw06_within.f t154 t146 t147).bind fun t155 => (if t155 = true then (pumicelaw06_NodeOrder.j2 kj17 a0 a1 a2 a4 a5 true) else ((node_EntryKey.f a1 a2).bind fun t156 => ((pumicelaw06_within.f t156 t146 t147).bind fun t157 => (pumicelaw06_NodeOrder.j2 kj17 a0 a1 a2 a4 a5 ((a1 != a0) == t157)))))) = some r := H
                      have A51 := Aside0.mk A510
                      clear A510
                      replace H := Option.bind_eq_some_iff.mp H
                      obtain ⟨t155, A520, H⟩ := H
                      replace H : (if t155 = true then (pumicelaw06_NodeOrder.j2 kj17 a0 a1 a2 a4 a5 true) else ((node_EntryKey.f a1 a2).bind fun t156 => ((pumicelaw06_within.f t156 t146 t147).bind fun t157 => (pumicelaw06_NodeOrder.j2 kj17 a0 a1 a2 a4 a5 ((a1 != a0) == t157))))) = some r := H
                      have A52 := Aside0.mk A520
                      clear A520
                      by_cases c53 : t155 = true
                      · subst c53
                        have H1 : (pumicelaw06_NodeOrder.j2 kj17 a0 a1 a2 a4 a5 true) = some r := by rw [if_pos rfl] at H; exact H
                        clear H
                        have H := H1
                        clear H1
                        have H' := Aside0.mk H
                        clear H
                        go_wp2_with (first | ((with_reducible refine gate_callee (f := 12) rfl ?_); refine goesL_ (some 77) rfl rfl Try.func12 (by kernel_rfl) rfl #[.int .i64 a0, .string a2] rfl (by (try simp only [List.map_toArray, List.map_cons, List.map_nil]); first | done | rfl | (simp only [List.length_drop, List.length_take]; rfl)) ?_; (with_reducible refine (node_EntryKey.calls a0 a2 t148 _ A37.out).mono ?_); rintro e w54 ⟨rfl, hb⟩; refine ⟨_, rfl, ?_⟩; have n0_ := Aside0.mk (below_step (by repeat (first | (with_reducible first | exact HB.out | apply below_alloc | apply pw_below_drewN | apply below_drew1) | exact HB.out)) hb); clear HB; have HB := n0_; clear n0_; (try clear hb); (try clear hb2); (try clear hk); (try clear hi)) | ((with_reducible refine gate_callee (f := 15) rfl ?_); refine goesL_ (some 80) rfl rfl Try.func15 (by kernel_rfl) rfl #[.string t148, .string t146, .string t147] rfl (by (try simp only [List.map_toArray, List.map_cons, List.map_nil]); first | done | rfl | (simp only [List.length_drop, List.length_take]; rfl)) ?_; (with_reducible refine (pumicelaw06_within.calls t148 t146 t147 true _ A38.out).mono ?_); rintro e w' ⟨rfl, ⟨nd, rfl⟩⟩; refine ⟨_, rfl, ?_⟩) | (go_at_call 16; (with_reducible refine (node_InodeKey.calls a0 t150 _ A40.out).mono ?_); rintro e w55 ⟨rfl, hb⟩; have n0_ := Aside0.mk (below_step (by repeat (first | (with_reducible first | exact HB.out | apply below_alloc | apply pw_below_drewN | apply below_drew1) | exact HB.out)) hb); clear HB; have HB := n0_; clear n0_; (try clear hb); (try clear hb2); (try clear hk); (try clear hi)) | (go_at_call 15; (with_reducible refine (pumicelaw06_within.calls t150 t146 t147 false _ A41.out).mono ?_); rintro e w' ⟨rfl, ⟨nd, rfl⟩⟩) | (go_at_call 13; (with_reducible refine (node_BlockKey.calls a0 a4 t152 _ A45.out).mono ?_); rintro e w56 ⟨rfl, hb⟩; have n0_ := Aside0.mk (below_step (by repeat (first | (with_reducible first | exact HB.out | apply below_alloc | apply pw_below_drewN | apply below_drew1) | exact HB.out)) hb); clear HB; have HB := n0_; clear n0_; (try clear hb); (try clear hb2); (try clear hk); (try clear hi)) | (go_at_call 15; (with_reducible refine (pumicelaw06_within.calls t152 t146 t147 false _ A46.out).mono ?_); rintro e w' ⟨rfl, ⟨nd, rfl⟩⟩) | (go_at_call 17; (with_reducible refine (node_OrphanKey.calls a0 t154 _ A51.out).mono ?_); rintro e w57 ⟨rfl, hb⟩; have n0_ := Aside0.mk (below_step (by repeat (first | (with_reducible first | exact HB.out | apply below_alloc | apply pw_below_drewN | apply below_drew1) | exact HB.out)) hb); clear HB; have HB := n0_; clear n0_; (try clear hb); (try clear hb2); (try clear hk); (try clear hi)) | (go_at_call 15; (with_reducible refine (pumicelaw06_within.calls t154 t146 t147 true _ A52.out).mono ?_); rintro e w' ⟨rfl, ⟨nd, rfl⟩⟩))
                        go_meet
                        case rel => exact ⟨_, (true), (by first | rfl | (simp; done) | (simp [*]; done) | (simp [wrap64]; done)), H', ⟨by have := HJ6.out; have := HJ17.out; first | omega | exact Nat.le_refl _⟩, ⟨by repeat (first | (with_reducible first | exact HB.out | apply below_alloc | apply pw_below_drewN | apply below_drew1) | exact HB.out)⟩⟩
                      · replace c53 := Bool.eq_false_iff.mpr c53
                        subst c53
                        have H1 : ((node_EntryKey.f a1 a2).bind fun t156 => ((pumicelaw06_within.f t156 t146 t147).bind fun t157 => (pumicelaw06_NodeOrder.j2 kj17 a0 a1 a2 a4 a5 ((a1 != a0) == t157)))) = some r := by rw [if_neg (show ¬ (false = true) by decide)] at H; exact H
                        clear H
                        have H := H1
                        clear H1
                        replace H := Option.bind_eq_some_iff.mp H
                        obtain ⟨t156, A580, H⟩ := H
                        replace H : ((pumicelaw06_within.f t156 t146 t147).bind fun t157 => (pumicelaw06_NodeOrder.j2 kj17 a0 a1 a2 a4 a5 ((a1 != a0) == t157))) = some r := H
                        have A58 := Aside0.mk A580
                        clear A580
                        replace H := Option.bind_eq_some_iff.mp H
                        obtain ⟨t157, A590, H⟩ := H
                        replace H : (pumicelaw06_NodeOrder.j2 kj17 a0 a1 a2 a4 a5 ((a1 != a0) == t157)) = some r := H
                        have A59 := Aside0.mk A590
                        clear A590
                        have H' := Aside0.mk H
                        clear H
                        go_wp2_with (first | ((with_reducible refine gate_callee (f := 12) rfl ?_); refine goesL_ (some 77) rfl rfl Try.func12 (by kernel_rfl) rfl #[.int .i64 a0, .string a2] rfl (by (try simp only [List.map_toArray, List.map_cons, List.map_nil]); first | done | rfl | (simp only [List.length_drop, List.length_take]; rfl)) ?_; (with_reducible refine (node_EntryKey.calls a0 a2 t148 _ A37.out).mono ?_); rintro e w60 ⟨rfl, hb⟩; refine ⟨_, rfl, ?_⟩; have n0_ := Aside0.mk (below_step (by repeat (first | (with_reducible first | exact HB.out | apply below_alloc | apply pw_below_drewN | apply below_drew1) | exact HB.out)) hb); clear HB; have HB := n0_; clear n0_; (try clear hb); (try clear hb2); (try clear hk); (try clear hi)) | ((with_reducible refine gate_callee (f := 15) rfl ?_); refine goesL_ (some 80) rfl rfl Try.func15 (by kernel_rfl) rfl #[.string t148, .string t146, .string t147] rfl (by (try simp only [List.map_toArray, List.map_cons, List.map_nil]); first | done | rfl | (simp only [List.length_drop, List.length_take]; rfl)) ?_; (with_reducible refine (pumicelaw06_within.calls t148 t146 t147 true _ A38.out).mono ?_); rintro e w' ⟨rfl, ⟨nd, rfl⟩⟩; refine ⟨_, rfl, ?_⟩) | (go_at_call 16; (with_reducible refine (node_InodeKey.calls a0 t150 _ A40.out).mono ?_); rintro e w61 ⟨rfl, hb⟩; have n0_ := Aside0.mk (below_step (by repeat (first | (with_reducible first | exact HB.out | apply below_alloc | apply pw_below_drewN | apply below_drew1) | exact HB.out)) hb); clear HB; have HB := n0_; clear n0_; (try clear hb); (try clear hb2); (try clear hk); (try clear hi)) | (go_at_call 15; (with_reducible refine (pumicelaw06_within.calls t150 t146 t147 false _ A41.out).mono ?_); rintro e w' ⟨rfl, ⟨nd, rfl⟩⟩) | (go_at_call 13; (with_reducible refine (node_BlockKey.calls a0 a4 t152 _ A45.out).mono ?_); rintro e w62 ⟨rfl, hb⟩; have n0_ := Aside0.mk (below_step (by repeat (first | (with_reducible first | exact HB.out | apply below_alloc | apply pw_below_drewN | apply below_drew1) | exact HB.out)) hb); clear HB; have HB := n0_; clear n0_; (try clear hb); (try clear hb2); (try clear hk); (try clear hi)) | (go_at_call 15; (with_reducible refine (pumicelaw06_within.calls t152 t146 t147 false _ A46.out).mono ?_); rintro e w' ⟨rfl, ⟨nd, rfl⟩⟩) | (go_at_call 17; (with_reducible refine (node_OrphanKey.calls a0 t154 _ A51.out).mono ?_); rintro e w63 ⟨rfl, hb⟩; have n0_ := Aside0.mk (below_step (by repeat (first | (with_reducible first | exact HB.out | apply below_alloc | apply pw_below_drewN | apply below_drew1) | exact HB.out)) hb); clear HB; have HB := n0_; clear n0_; (try clear hb); (try clear hb2); (try clear hk); (try clear hi)) | (go_at_call 15; (with_reducible refine (pumicelaw06_within.calls t154 t146 t147 false _ A52.out).mono ?_); rintro e w' ⟨rfl, ⟨nd, rfl⟩⟩) | (go_at_call 12; (with_reducible refine (node_EntryKey.calls a1 a2 t156 _ A58.out).mono ?_); rintro e w64 ⟨rfl, hb⟩; have n0_ := Aside0.mk (below_step (by repeat (first | (with_reducible first | exact HB.out | apply below_alloc | apply pw_below_drewN | apply below_drew1) | exact HB.out)) hb); clear HB; have HB := n0_; clear n0_; (try clear hb); (try clear hb2); (try clear hk); (try clear hi)) | (go_at_call 15; (with_reducible refine (pumicelaw06_within.calls t156 t146 t147 t157 _ A59.out).mono ?_); rintro e w' ⟨rfl, ⟨nd, rfl⟩⟩))
                        go_meet
                        case rel => exact ⟨_, (((a1 != a0) == t157)), (by first | rfl | (simp; done) | (simp [*]; done) | (simp [wrap64]; done)), H', ⟨by have := HJ6.out; have := HJ17.out; first | omega | exact Nat.le_refl _⟩, ⟨by repeat (first | (with_reducible first | exact HB.out | apply below_alloc | apply pw_below_drewN | apply below_drew1) | exact HB.out)⟩⟩
                · replace c39 := Bool.eq_false_iff.mpr c39
                  subst c39
                  have H1 : (pumicelaw06_NodeOrder.j2 kj17 a0 a1 a2 a4 a5 true) = some r := by rw [if_neg (show ¬ (false = true) by decide)] at H; exact H
                  clear H
                  have H := H1
                  clear H1
                  have H' := Aside0.mk H
                  clear H
                  go_wp2_with (first | ((with_reducible refine gate_callee (f := 12) rfl ?_); refine goesL_ (some 77) rfl rfl Try.func12 (by kernel_rfl) rfl #[.int .i64 a0, .string a2] rfl (by (try simp only [List.map_toArray, List.map_cons, List.map_nil]); first | done | rfl | (simp only [List.length_drop, List.length_take]; rfl)) ?_; (with_reducible refine (node_EntryKey.calls a0 a2 t148 _ A37.out).mono ?_); rintro e w65 ⟨rfl, hb⟩; refine ⟨_, rfl, ?_⟩; have n0_ := Aside0.mk (below_step (by repeat (first | (with_reducible first | exact HB.out | apply below_alloc | apply pw_below_drewN | apply below_drew1) | exact HB.out)) hb); clear HB; have HB := n0_; clear n0_; (try clear hb); (try clear hb2); (try clear hk); (try clear hi)) | ((with_reducible refine gate_callee (f := 15) rfl ?_); refine goesL_ (some 80) rfl rfl Try.func15 (by kernel_rfl) rfl #[.string t148, .string t146, .string t147] rfl (by (try simp only [List.map_toArray, List.map_cons, List.map_nil]); first | done | rfl | (simp only [List.length_drop, List.length_take]; rfl)) ?_; (with_reducible refine (pumicelaw06_within.calls t148 t146 t147 false _ A38.out).mono ?_); rintro e w' ⟨rfl, ⟨nd, rfl⟩⟩; refine ⟨_, rfl, ?_⟩))
                  go_meet
                  case rel => exact ⟨_, (true), (by first | rfl | (simp; done) | (simp [*]; done) | (simp [wrap64]; done)), H', ⟨by have := HJ6.out; have := HJ17.out; first | omega | exact Nat.le_refl _⟩, ⟨by repeat (first | (with_reducible first | exact HB.out | apply below_alloc | apply pw_below_drewN | apply below_drew1) | exact HB.out)⟩⟩
              case rest =>
                clear HC35
                try clear c1
                try clear c2
                try clear p2
                try clear c3
                try clear c4
                try clear c5
                try clear p6
                try clear c8
                try clear c8b0
                try clear c9
                try clear c9b0
                try clear c10
                try clear c10b0
                try clear c11
                try clear c11b0
                try clear c12
                try clear c12b0
                try clear c13
                try clear c13b0
                try clear c14
                try clear c14b0
                try clear c15
                try clear c23
                try clear c23b0
                try clear c23b1
                try clear c23b2
                try clear c33
                try clear c39
                try clear c42
                try clear c47
                try clear c53
                try clear p64
                try clear p2
                try clear p6
                obtain ⟨kq, x115_34, rfl, HA, HJ34, HB⟩ := hcut
                cases kq with
                | zero => exact absurd HA.out (by simp [pumicelaw06_NodeOrder.j2])
                | succ kj34 =>
                  have H := HA.out
                  clear HA
                  simp only [pumicelaw06_NodeOrder.j2] at H
                  by_cases c66 : x115_34 = true
                  · subst c66
                    have H1 : (none) = some r := by rw [if_pos rfl] at H; exact H
                    clear H
                    have H := H1
                    clear H1
                    exact absurd H (by simp)
                  · replace c66 := Bool.eq_false_iff.mpr c66
                    subst c66
                    have H1 : ((node_From.f a0 3).bind fun bt158 => ((node_BlockKey.f a0 a4).bind fun t160 => ((pumicelaw06_within.f t160 bt158.1 bt158.2).bind fun t161 => (if t161 = true then ((node_EntryKey.f a0 a2).bind fun t162 => ((pumicelaw06_within.f t162 bt158.1 bt158.2).bind fun t163 => (if t163 = true then (pumicelaw06_NodeOrder.j3 kj34 a0 a1 true) else ((node_BlockKey.f a1 a5).bind fun t164 => ((pumicelaw06_within.f t164 bt158.1 bt158.2).bind fun t165 => (pumicelaw06_NodeOrder.j3 kj34 a0 a1 ((a1 != a0) == t165))))))) else (pumicelaw06_NodeOrder.j3 kj34 a0 a1 true))))) = some r := by rw [if_neg (show ¬ (false = true) by decide)] at H; exact H
                    clear H
                    have H := H1
                    clear H1
                    replace H := Option.bind_eq_some_iff.mp H
                    obtain ⟨⟨t158, t159⟩, A670, H⟩ := H
                    replace H : ((node_BlockKey.f a0 a4).bind fun t160 => ((pumicelaw06_within.f t160 t158 t159).bind fun t161 => (if t161 = true then ((node_EntryKey.f a0 a2).bind fun t162 => ((pumicelaw06_within.f t162 t158 t159).bind fun t163 => (if t163 = true then (pumicelaw06_NodeOrder.j3 kj34 a0 a1 true) else ((node_BlockKey.f a1 a5).bind fun t164 => ((pumicelaw06_within.f t164 t158 t159).bind fun t165 => (pumicelaw06_NodeOrder.j3 kj34 a0 a1 ((a1 != a0) == t165))))))) else (pumicelaw06_NodeOrder.j3 kj34 a0 a1 true)))) = some r := H
                    have A67 := Aside0.mk A670
                    clear A670
                    have HC68 := Aside0.mk H
                    clear H
                    go_upto_region 9 with (first | ((with_reducible refine gate_callee (f := 14) rfl ?_); refine goesL_ (some 118) rfl rfl Try.func14 (by kernel_rfl) rfl #[.int .i64 a0, .int .i64 3] rfl (by (try simp only [List.map_toArray, List.map_cons, List.map_nil]); first | done | rfl | (simp only [List.length_drop, List.length_take]; rfl)) ?_; (with_reducible refine (node_From.calls a0 3 t158 t159 _ A67.out).mono ?_); rintro e w69 ⟨rfl, hb⟩; refine ⟨_, rfl, ?_⟩; have n0_ := Aside0.mk (below_step (by repeat (first | (with_reducible first | exact HB.out | apply below_alloc | apply pw_below_drewN | apply below_drew1) | exact HB.out)) hb); clear HB; have HB := n0_; clear n0_; (try clear hb); (try clear hb2); (try clear hk); (try clear hi)))
                    (try simp only [Act.put, List.setIfInBounds_toArray, List.set_cons_zero, List.set_cons_succ])
                    go_cut [147] (fun v147 wc => ∃ (kq : Nat) (x147_67 : Bool), v147 = .bool x147_67 ∧ Aside0 (pumicelaw06_NodeOrder.j3 kq a0 a1 x147_67 = some r) ∧ Aside0 (kq ≤ kj34) ∧ Aside0 (Below w.heap.size w wc))
                    case first =>
                      have H := HC68.out
                      clear HC68
                      replace H := Option.bind_eq_some_iff.mp H
                      obtain ⟨t160, A700, H⟩ := H
                      replace H : ((pumicelaw06_within.f t160 t158 t159).bind fun t161 => (if t161 = true then ((node_EntryKey.f a0 a2).bind fun t162 => ((pumicelaw06_within.f t162 t158 t159).bind fun t163 => (if t163 = true then (pumicelaw06_NodeOrder.j3 kj34 a0 a1 true) else ((node_BlockKey.f a1 a5).bind fun t164 => ((pumicelaw06_within.f t164 t158 t159).bind fun t165 => (pumicelaw06_NodeOrder.j3 kj34 a0 a1 ((a1 != a0) == t165))))))) else (pumicelaw06_NodeOrder.j3 kj34 a0 a1 true))) = some r := H
                      have A70 := Aside0.mk A700
                      clear A700
                      replace H := Option.bind_eq_some_iff.mp H
                      obtain ⟨t161, A710, H⟩ := H
                      replace H : (if t161 = true then ((node_EntryKey.f a0 a2).bind fun t162 => ((pumicelaw06_within.f t162 t158 t159).bind fun t163 => (if t163 = true then (pumicelaw06_NodeOrder.j3 kj34 a0 a1 true) else ((node_BlockKey.f a1 a5).bind fun t164 => ((pumicelaw06_within.f t164 t158 t159).bind fun t165 => (pumicelaw06_NodeOrder.j3 kj34 a0 a1 ((a1 != a0) == t165))))))) else (pumicelaw06_NodeOrder.j3 kj34 a0 a1 true)) = some r := H
                      have A71 := Aside0.mk A710
                      clear A710
                      by_cases c72 : t161 = true
                      · subst c72
                        have H1 : ((node_EntryKey.f a0 a2).bind fun t162 => ((pumicelaw06_within.f t162 t158 t159).bind fun t163 => (if t163 = true then (pumicelaw06_NodeOrder.j3 kj34 a0 a1 true) else ((node_BlockKey.f a1 a5).bind fun t164 => ((pumicelaw06_within.f t164 t158 t159).bind fun t165 => (pumicelaw06_NodeOrder.j3 kj34 a0 a1 ((a1 != a0) == t165))))))) = some r := by rw [if_pos rfl] at H; exact H
                        clear H
                        have H := H1
                        clear H1
                        replace H := Option.bind_eq_some_iff.mp H
                        obtain ⟨t162, A730, H⟩ := H
                        replace H : ((pumicelaw06_within.f t162 t158 t159).bind fun t163 => (if t163 = true then (pumicelaw06_NodeOrder.j3 kj34 a0 a1 true) else ((node_BlockKey.f a1 a5).bind fun t164 => ((pumicelaw06_within.f t164 t158 t159).bind fun t165 => (pumicelaw06_NodeOrder.j3 kj34 a0 a1 ((a1 != a0) == t165)))))) = some r := H
                        have A73 := Aside0.mk A730
                        clear A730
                        replace H := Option.bind_eq_some_iff.mp H
                        obtain ⟨t163, A740, H⟩ := H
                        replace H : (if t163 = true then (pumicelaw06_NodeOrder.j3 kj34 a0 a1 true) else ((node_BlockKey.f a1 a5).bind fun t164 => ((pumicelaw06_within.f t164 t158 t159).bind fun t165 => (pumicelaw06_NodeOrder.j3 kj34 a0 a1 ((a1 != a0) == t165))))) = some r := H
                        have A74 := Aside0.mk A740
                        clear A740
                        by_cases c75 : t163 = true
                        · subst c75
                          have H1 : (pumicelaw06_NodeOrder.j3 kj34 a0 a1 true) = some r := by rw [if_pos rfl] at H; exact H
                          clear H
                          have H := H1
                          clear H1
                          have H' := Aside0.mk H
                          clear H
                          go_wp2_with (first | ((with_reducible refine gate_callee (f := 13) rfl ?_); refine goesL_ (some 123) rfl rfl Try.func13 (by kernel_rfl) rfl #[.int .i64 a0, .int .i64 a4] rfl (by (try simp only [List.map_toArray, List.map_cons, List.map_nil]); first | done | rfl | (simp only [List.length_drop, List.length_take]; rfl)) ?_; (with_reducible refine (node_BlockKey.calls a0 a4 t160 _ A70.out).mono ?_); rintro e w76 ⟨rfl, hb⟩; refine ⟨_, rfl, ?_⟩; have n0_ := Aside0.mk (below_step (by repeat (first | (with_reducible first | exact HB.out | apply below_alloc | apply pw_below_drewN | apply below_drew1) | exact HB.out)) hb); clear HB; have HB := n0_; clear n0_; (try clear hb); (try clear hb2); (try clear hk); (try clear hi)) | ((with_reducible refine gate_callee (f := 15) rfl ?_); refine goesL_ (some 126) rfl rfl Try.func15 (by kernel_rfl) rfl #[.string t160, .string t158, .string t159] rfl (by (try simp only [List.map_toArray, List.map_cons, List.map_nil]); first | done | rfl | (simp only [List.length_drop, List.length_take]; rfl)) ?_; (with_reducible refine (pumicelaw06_within.calls t160 t158 t159 true _ A71.out).mono ?_); rintro e w' ⟨rfl, ⟨nd, rfl⟩⟩; refine ⟨_, rfl, ?_⟩) | (go_at_call 12; (with_reducible refine (node_EntryKey.calls a0 a2 t162 _ A73.out).mono ?_); rintro e w77 ⟨rfl, hb⟩; have n0_ := Aside0.mk (below_step (by repeat (first | (with_reducible first | exact HB.out | apply below_alloc | apply pw_below_drewN | apply below_drew1) | exact HB.out)) hb); clear HB; have HB := n0_; clear n0_; (try clear hb); (try clear hb2); (try clear hk); (try clear hi)) | (go_at_call 15; (with_reducible refine (pumicelaw06_within.calls t162 t158 t159 true _ A74.out).mono ?_); rintro e w' ⟨rfl, ⟨nd, rfl⟩⟩))
                          go_meet
                          case rel => exact ⟨_, (true), (by first | rfl | (simp; done) | (simp [*]; done) | (simp [wrap64]; done)), H', ⟨by have := HJ6.out; have := HJ17.out; have := HJ34.out; first | omega | exact Nat.le_refl _⟩, ⟨by repeat (first | (with_reducible first | exact HB.out | apply below_alloc | apply pw_below_drewN | apply below_drew1) | exact HB.out)⟩⟩
                        · replace c75 := Bool.eq_false_iff.mpr c75
                          subst c75
                          have H1 : ((node_BlockKey.f a1 a5).bind fun t164 => ((pumicelaw06_within.f t164 t158 t159).bind fun t165 => (pumicelaw06_NodeOrder.j3 kj34 a0 a1 ((a1 != a0) == t165)))) = some r := by rw [if_neg (show ¬ (false = true) by decide)] at H; exact H
                          clear H
                          have H := H1
                          clear H1
                          replace H := Option.bind_eq_some_iff.mp H
                          obtain ⟨t164, A780, H⟩ := H
                          replace H : ((pumicelaw06_within.f t164 t158 t159).bind fun t165 => (pumicelaw06_NodeOrder.j3 kj34 a0 a1 ((a1 != a0) == t165))) = some r := H
                          have A78 := Aside0.mk A780
                          clear A780
                          replace H := Option.bind_eq_some_iff.mp H
                          obtain ⟨t165, A790, H⟩ := H
                          replace H : (pumicelaw06_NodeOrder.j3 kj34 a0 a1 ((a1 != a0) == t165)) = some r := H
                          have A79 := Aside0.mk A790
                          clear A790
                          have H' := Aside0.mk H
                          clear H
                          go_wp2_with (first | ((with_reducible refine gate_callee (f := 13) rfl ?_); refine goesL_ (some 123) rfl rfl Try.func13 (by kernel_rfl) rfl #[.int .i64 a0, .int .i64 a4] rfl (by (try simp only [List.map_toArray, List.map_cons, List.map_nil]); first | done | rfl | (simp only [List.length_drop, List.length_take]; rfl)) ?_; (with_reducible refine (node_BlockKey.calls a0 a4 t160 _ A70.out).mono ?_); rintro e w80 ⟨rfl, hb⟩; refine ⟨_, rfl, ?_⟩; have n0_ := Aside0.mk (below_step (by repeat (first | (with_reducible first | exact HB.out | apply below_alloc | apply pw_below_drewN | apply below_drew1) | exact HB.out)) hb); clear HB; have HB := n0_; clear n0_; (try clear hb); (try clear hb2); (try clear hk); (try clear hi)) | ((with_reducible refine gate_callee (f := 15) rfl ?_); refine goesL_ (some 126) rfl rfl Try.func15 (by kernel_rfl) rfl #[.string t160, .string t158, .string t159] rfl (by (try simp only [List.map_toArray, List.map_cons, List.map_nil]); first | done | rfl | (simp only [List.length_drop, List.length_take]; rfl)) ?_; (with_reducible refine (pumicelaw06_within.calls t160 t158 t159 true _ A71.out).mono ?_); rintro e w' ⟨rfl, ⟨nd, rfl⟩⟩; refine ⟨_, rfl, ?_⟩) | (go_at_call 12; (with_reducible refine (node_EntryKey.calls a0 a2 t162 _ A73.out).mono ?_); rintro e w81 ⟨rfl, hb⟩; have n0_ := Aside0.mk (below_step (by repeat (first | (with_reducible first | exact HB.out | apply below_alloc | apply pw_below_drewN | apply below_drew1) | exact HB.out)) hb); clear HB; have HB := n0_; clear n0_; (try clear hb); (try clear hb2); (try clear hk); (try clear hi)) | (go_at_call 15; (with_reducible refine (pumicelaw06_within.calls t162 t158 t159 false _ A74.out).mono ?_); rintro e w' ⟨rfl, ⟨nd, rfl⟩⟩) | (go_at_call 13; (with_reducible refine (node_BlockKey.calls a1 a5 t164 _ A78.out).mono ?_); rintro e w82 ⟨rfl, hb⟩; have n0_ := Aside0.mk (below_step (by repeat (first | (with_reducible first | exact HB.out | apply below_alloc | apply pw_below_drewN | apply below_drew1) | exact HB.out)) hb); clear HB; have HB := n0_; clear n0_; (try clear hb); (try clear hb2); (try clear hk); (try clear hi)) | (go_at_call 15; (with_reducible refine (pumicelaw06_within.calls t164 t158 t159 t165 _ A79.out).mono ?_); rintro e w' ⟨rfl, ⟨nd, rfl⟩⟩))
                          go_meet
                          case rel => exact ⟨_, (((a1 != a0) == t165)), (by first | rfl | (simp; done) | (simp [*]; done) | (simp [wrap64]; done)), H', ⟨by have := HJ6.out; have := HJ17.out; have := HJ34.out; first | omega | exact Nat.le_refl _⟩, ⟨by repeat (first | (with_reducible first | exact HB.out | apply below_alloc | apply pw_below_drewN | apply below_drew1) | exact HB.out)⟩⟩
                      · replace c72 := Bool.eq_false_iff.mpr c72
                        subst c72
                        have H1 : (pumicelaw06_NodeOrder.j3 kj34 a0 a1 true) = some r := by rw [if_neg (show ¬ (false = true) by decide)] at H; exact H
                        clear H
                        have H := H1
                        clear H1
                        have H' := Aside0.mk H
                        clear H
                        go_wp2_with (first | ((with_reducible refine gate_callee (f := 13) rfl ?_); refine goesL_ (some 123) rfl rfl Try.func13 (by kernel_rfl) rfl #[.int .i64 a0, .int .i64 a4] rfl (by (try simp only [List.map_toArray, List.map_cons, List.map_nil]); first | done | rfl | (simp only [List.length_drop, List.length_take]; rfl)) ?_; (with_reducible refine (node_BlockKey.calls a0 a4 t160 _ A70.out).mono ?_); rintro e w83 ⟨rfl, hb⟩; refine ⟨_, rfl, ?_⟩; have n0_ := Aside0.mk (below_step (by repeat (first | (with_reducible first | exact HB.out | apply below_alloc | apply pw_below_drewN | apply below_drew1) | exact HB.out)) hb); clear HB; have HB := n0_; clear n0_; (try clear hb); (try clear hb2); (try clear hk); (try clear hi)) | ((with_reducible refine gate_callee (f := 15) rfl ?_); refine goesL_ (some 126) rfl rfl Try.func15 (by kernel_rfl) rfl #[.string t160, .string t158, .string t159] rfl (by (try simp only [List.map_toArray, List.map_cons, List.map_nil]); first | done | rfl | (simp only [List.length_drop, List.length_take]; rfl)) ?_; (with_reducible refine (pumicelaw06_within.calls t160 t158 t159 false _ A71.out).mono ?_); rintro e w' ⟨rfl, ⟨nd, rfl⟩⟩; refine ⟨_, rfl, ?_⟩))
                        go_meet
                        case rel => exact ⟨_, (true), (by first | rfl | (simp; done) | (simp [*]; done) | (simp [wrap64]; done)), H', ⟨by have := HJ6.out; have := HJ17.out; have := HJ34.out; first | omega | exact Nat.le_refl _⟩, ⟨by repeat (first | (with_reducible first | exact HB.out | apply below_alloc | apply pw_below_drewN | apply below_drew1) | exact HB.out)⟩⟩
                    case rest =>
                      clear HC68
                      try clear c1
                      try clear c2
                      try clear p2
                      try clear c3
                      try clear c4
                      try clear c5
                      try clear c6
                      try clear p6
                      try clear c7
                      try clear c8
                      try clear c8b0
                      try clear c9
                      try clear c9b0
                      try clear c10
                      try clear c10b0
                      try clear c11
                      try clear c11b0
                      try clear c12
                      try clear c12b0
                      try clear c13
                      try clear c13b0
                      try clear c14
                      try clear c14b0
                      try clear c15
                      try clear c23
                      try clear c23b0
                      try clear c23b1
                      try clear c23b2
                      try clear c33
                      try clear c39
                      try clear c42
                      try clear c47
                      try clear c53
                      try clear p64
                      try clear c66
                      try clear c72
                      try clear c75
                      try clear p2
                      try clear p6
                      try clear p64
                      obtain ⟨kq, x147_67, rfl, HA, HJ67, HB⟩ := hcut
                      cases kq with
                      | zero => exact absurd HA.out (by simp [pumicelaw06_NodeOrder.j3])
                      | succ kj67 =>
                        have H := HA.out
                        clear HA
                        simp only [pumicelaw06_NodeOrder.j3] at H
                        by_cases c84 : x147_67 = true
                        · subst c84
                          have H1 : (none) = some r := by rw [if_pos rfl] at H; exact H
                          clear H
                          have H := H1
                          clear H1
                          exact absurd H (by simp)
                        · replace c84 := Bool.eq_false_iff.mpr c84
                          subst c84
                          have H1 : ((node_InodeKey.f a0).bind fun t166 => ((node_InodeKey.f a1).bind fun t167 => ((names_Less.f t166 t167).bind fun t168 => (if ((decide (a0 < a1)) == t168) = true then ((pumicelaw06_alive.f).bind fun t169 => (some t169)) else (none))))) = some r := by rw [if_neg (show ¬ (false = true) by decide)] at H; exact H
                          clear H
                          have H := H1
                          clear H1
                          replace H := Option.bind_eq_some_iff.mp H
                          obtain ⟨t166, A850, H⟩ := H
                          replace H : ((node_InodeKey.f a1).bind fun t167 => ((names_Less.f t166 t167).bind fun t168 => (if ((decide (a0 < a1)) == t168) = true then ((pumicelaw06_alive.f).bind fun t169 => (some t169)) else (none)))) = some r := H
                          have A85 := Aside0.mk A850
                          clear A850
                          replace H := Option.bind_eq_some_iff.mp H
                          obtain ⟨t167, A860, H⟩ := H
                          replace H : ((names_Less.f t166 t167).bind fun t168 => (if ((decide (a0 < a1)) == t168) = true then ((pumicelaw06_alive.f).bind fun t169 => (some t169)) else (none))) = some r := H
                          have A86 := Aside0.mk A860
                          clear A860
                          replace H := Option.bind_eq_some_iff.mp H
                          obtain ⟨t168, A870, H⟩ := H
                          replace H : (if ((decide (a0 < a1)) == t168) = true then ((pumicelaw06_alive.f).bind fun t169 => (some t169)) else (none)) = some r := H
                          have A87 := Aside0.mk A870
                          clear A870
                          by_cases c88 : ((decide (a0 < a1)) == t168) = true
                          · rw [if_pos c88] at H
                            have c88b0 : ((decide (a0 < a1)) == t168) = true := c88
                            (try (have c88b1 : decide ((decide (a0 < a1)) = t168) = true := by simpa using c88))
                            (try (have c88b2 : ((decide (a0 < a1)) == t168) = true := by simpa using c88))
                            clear c88
                            replace H := Option.bind_eq_some_iff.mp H
                            obtain ⟨t169, A890, H⟩ := H
                            replace H : (some t169) = some r := H
                            have A89 := Aside0.mk A890
                            clear A890
                            obtain rfl := Option.some.inj H
                            go_wp2_with (first | ((with_reducible refine gate_callee (f := 16) rfl ?_); refine goesL_ (some 152) rfl rfl Try.func16 (by kernel_rfl) rfl #[.int .i64 a0] rfl (by (try simp only [List.map_toArray, List.map_cons, List.map_nil]); first | done | rfl | (simp only [List.length_drop, List.length_take]; rfl)) ?_; (with_reducible refine (node_InodeKey.calls a0 t166 _ A85.out).mono ?_); rintro e w90 ⟨rfl, hb⟩; refine ⟨_, rfl, ?_⟩; have n0_ := Aside0.mk (below_step (by repeat (first | (with_reducible first | exact HB.out | apply below_alloc | apply pw_below_drewN | apply below_drew1) | exact HB.out)) hb); clear HB; have HB := n0_; clear n0_; (try clear hb); (try clear hb2); (try clear hk); (try clear hi)) | ((with_reducible refine gate_callee (f := 16) rfl ?_); refine goesL_ (some 154) rfl rfl Try.func16 (by kernel_rfl) rfl #[.int .i64 a1] rfl (by (try simp only [List.map_toArray, List.map_cons, List.map_nil]); first | done | rfl | (simp only [List.length_drop, List.length_take]; rfl)) ?_; (with_reducible refine (node_InodeKey.calls a1 t167 _ A86.out).mono ?_); rintro e w91 ⟨rfl, hb⟩; refine ⟨_, rfl, ?_⟩; have n0_ := Aside0.mk (below_step (by repeat (first | (with_reducible first | exact HB.out | apply below_alloc | apply pw_below_drewN | apply below_drew1) | exact HB.out)) hb); clear HB; have HB := n0_; clear n0_; (try clear hb); (try clear hb2); (try clear hk); (try clear hi)) | ((with_reducible refine gate_callee (f := 11) rfl ?_); refine goesL_ (some 155) rfl rfl Try.func11 (by kernel_rfl) rfl #[.string t166, .string t167] rfl (by (try simp only [List.map_toArray, List.map_cons, List.map_nil]); first | done | rfl | (simp only [List.length_drop, List.length_take]; rfl)) ?_; (with_reducible refine (names_Less.calls t166 t167 t168 _ A87.out).mono ?_); rintro e w' ⟨rfl, ⟨nd, rfl⟩⟩; refine ⟨_, rfl, ?_⟩) | (go_at_call 10; (with_reducible refine (pumicelaw06_alive.calls  t169 _ A89.out).mono ?_); rintro e w92 ⟨rfl, hb⟩; have n0_ := Aside0.mk (below_step (by repeat (first | (with_reducible first | exact HB.out | apply below_alloc | apply pw_below_drewN | apply below_drew1) | exact HB.out)) hb); clear HB; have HB := n0_; clear n0_; (try clear hb); (try clear hb2); (try clear hk); (try clear hi)))
                            go_ret
                            exact ⟨by first | rfl | exact isEmpty_bne_ _ | (simp [errW_none, errW_some] <;> rfl) | (simp [*, errW_none, errW_some] <;> rfl), by repeat (first | (with_reducible first | exact HB.out | apply below_alloc | apply pw_below_drewN | apply below_drew1) | exact HB.out)⟩
                          · rw [if_neg c88] at H
                            exact absurd H (by simp)

/-! ### pumiceref06_Right: function 23 -/
def pumiceref06_Right.f (a0_0 : ByteArray) (a0_1 : ByteArray) (a0_2 : Bool) : Option (Bool) := if (a0_0.size : Int) ≥ 1 then (if (a0_0.size : Int) ≤ 64 then (if (a0_1.size : Int) ≤ 256 then (if a0_2 = true then (some (!(a0_1.toList != ([] : List UInt8)))) else (some (!false))) else (some false)) else (some false)) else (some false)
set_option maxHeartbeats 8000000 in
set_option maxRecDepth 100000 in
theorem pumiceref06_Right.calls (a0_0 : ByteArray) (a0_1 : ByteArray) (a0_2 : Bool) (r : Bool) (w : World) (h : pumiceref06_Right.f a0_0 a0_1 a0_2 = some r) :
    Calls Try.prog 23 #[.agg #[.string a0_0, .string a0_1, .bool a0_2]] w fun e w' => e = .returned (.bool r) ∧ Below w.heap.size w w' := by
  have hu32 := Try.underlying32
  have HB := Aside0.mk (Below.refl w.heap.size w)
  have H : (if (a0_0.size : Int) ≥ 1 then (if (a0_0.size : Int) ≤ 64 then (if (a0_1.size : Int) ≤ 256 then (if a0_2 = true then (some (!(a0_1.toList != ([] : List UInt8)))) else (some (!false))) else (some false)) else (some false)) else (some false)) = some r := h
  clear h
  by_cases c2 : (a0_0.size : Int) ≥ 1
  · rw [if_pos c2] at H
    have c2b0 : decide (1 ≤ (a0_0.size : Int)) = true := decide_eq_true c2
    have c2b1 : decide (1 ≤ a0_0.size) = true := decide_eq_true (by omega)
    clear c2
    by_cases c3 : (a0_0.size : Int) ≤ 64
    · rw [if_pos c3] at H
      have c3b0 : decide ((a0_0.size : Int) ≤ 64) = true := decide_eq_true c3
      have c3b1 : decide (a0_0.size ≤ 64) = true := decide_eq_true (by omega)
      clear c3
      by_cases c4 : (a0_1.size : Int) ≤ 256
      · rw [if_pos c4] at H
        have c4b0 : decide ((a0_1.size : Int) ≤ 256) = true := decide_eq_true c4
        have c4b1 : decide (a0_1.size ≤ 256) = true := decide_eq_true (by omega)
        clear c4
        by_cases c5 : a0_2 = true
        · subst c5
          have H1 : (some (!(a0_1.toList != ([] : List UInt8)))) = some r := by rw [if_pos rfl] at H; exact H
          clear H
          have H := H1
          clear H1
          obtain rfl := Option.some.inj H
          go_enter Try.func23, Try.ntmps23
          go_wp2_with (first | ((with_reducible refine gate_dst (N := 1) rfl ?_); (try (refine gate_guard (by rfl) ?_; dsimp only)); refine box_event ?hg (N := 1) ?hd (cs := #[.string a0_0, .string a0_1, .bool true]) (t := 32) ?hr ?_; (case hd => rfl); (case hg => rfl); (case hr => first | (go_simp; done) | (go_simp; rfl)); intro gb170 hg w6 hbox hb; have n0_ := Aside0.mk (below_step (by repeat (first | (with_reducible first | exact HB.out | apply below_alloc | apply pw_below_drewN | apply below_drew1) | exact HB.out)) hb); have n1_ := Aside0.mk (hbox); have n2_ := Aside0.mk ((by rw [hg]; exact (below_size (by repeat (first | (with_reducible first | exact HB.out | apply below_alloc | apply pw_below_drewN | apply below_drew1) | exact HB.out))) : w.heap.size ≤ gb170)); have n3_ := Aside0.mk ((by rw [hg]; exact (below_size (by repeat (first | (with_reducible first | exact HB.out | apply below_alloc | apply pw_below_drewN | apply below_drew1) | exact HB.out))) : w.heap.size ≤ gb170)); clear HB; have HB := n0_; have BK170 := n1_; have GW170 := n2_; have GE170 := n3_; clear n0_ n1_ n2_ n3_; clear hb hbox hg; have hcz7_0 : w6.cell? ⟨gb170, 0, none⟩ = some (.string a0_0) := (blk_cell BK170.out 0).trans rfl; have hcz7_1 : w6.cell? ⟨gb170, 1, none⟩ = some (.string a0_1) := (blk_cell BK170.out 1).trans rfl; have hcz7_2 : w6.cell? ⟨gb170, 2, none⟩ = some (.bool true) := (blk_cell BK170.out 2).trans rfl; have hfz7_0 := blk_frozen BK170.out 0; have hfz7_1 := blk_frozen BK170.out 1; have hfz7_2 := blk_frozen BK170.out 2))
          go_ret
          exact ⟨by first | rfl | exact isEmpty_bne_ _ | (simp [errW_none, errW_some] <;> rfl) | (simp [*, errW_none, errW_some] <;> rfl), by repeat (first | (with_reducible first | exact HB.out | apply below_alloc | apply pw_below_drewN | apply below_drew1 | refine below_set ?_ GE170.out) | exact HB.out)⟩
        · replace c5 := Bool.eq_false_iff.mpr c5
          subst c5
          have H1 : (some (!false)) = some r := by rw [if_neg (show ¬ (false = true) by decide)] at H; exact H
          clear H
          have H := H1
          clear H1
          obtain rfl := Option.some.inj H
          go_enter Try.func23, Try.ntmps23
          go_wp2_with (first | ((with_reducible refine gate_dst (N := 1) rfl ?_); (try (refine gate_guard (by rfl) ?_; dsimp only)); refine box_event ?hg (N := 1) ?hd (cs := #[.string a0_0, .string a0_1, .bool false]) (t := 32) ?hr ?_; (case hd => rfl); (case hg => rfl); (case hr => first | (go_simp; done) | (go_simp; rfl)); intro gb170 hg w8 hbox hb; have n0_ := Aside0.mk (below_step (by repeat (first | (with_reducible first | exact HB.out | apply below_alloc | apply pw_below_drewN | apply below_drew1) | exact HB.out)) hb); have n1_ := Aside0.mk (hbox); have n2_ := Aside0.mk ((by rw [hg]; exact (below_size (by repeat (first | (with_reducible first | exact HB.out | apply below_alloc | apply pw_below_drewN | apply below_drew1) | exact HB.out))) : w.heap.size ≤ gb170)); have n3_ := Aside0.mk ((by rw [hg]; exact (below_size (by repeat (first | (with_reducible first | exact HB.out | apply below_alloc | apply pw_below_drewN | apply below_drew1) | exact HB.out))) : w.heap.size ≤ gb170)); clear HB; have HB := n0_; have BK170 := n1_; have GW170 := n2_; have GE170 := n3_; clear n0_ n1_ n2_ n3_; clear hb hbox hg; have hcz9_0 : w8.cell? ⟨gb170, 0, none⟩ = some (.string a0_0) := (blk_cell BK170.out 0).trans rfl; have hcz9_1 : w8.cell? ⟨gb170, 1, none⟩ = some (.string a0_1) := (blk_cell BK170.out 1).trans rfl; have hcz9_2 : w8.cell? ⟨gb170, 2, none⟩ = some (.bool false) := (blk_cell BK170.out 2).trans rfl; have hfz9_0 := blk_frozen BK170.out 0; have hfz9_1 := blk_frozen BK170.out 1; have hfz9_2 := blk_frozen BK170.out 2))
          go_ret
          exact ⟨by first | rfl | exact isEmpty_bne_ _ | (simp [errW_none, errW_some] <;> rfl) | (simp [*, errW_none, errW_some] <;> rfl), by repeat (first | (with_reducible first | exact HB.out | apply below_alloc | apply pw_below_drewN | apply below_drew1 | refine below_set ?_ GE170.out) | exact HB.out)⟩
      · rw [if_neg c4] at H
        have c4b0 : decide ((a0_1.size : Int) ≤ 256) = false := decide_eq_false c4
        have c4b1 : decide (a0_1.size ≤ 256) = false := decide_eq_false (by omega)
        clear c4
        obtain rfl := Option.some.inj H
        go_enter Try.func23, Try.ntmps23
        go_wp2_with (first | ((with_reducible refine gate_dst (N := 1) rfl ?_); (try (refine gate_guard (by rfl) ?_; dsimp only)); refine box_event ?hg (N := 1) ?hd (cs := #[.string a0_0, .string a0_1, .bool a0_2]) (t := 32) ?hr ?_; (case hd => rfl); (case hg => rfl); (case hr => first | (go_simp; done) | (go_simp; rfl)); intro gb170 hg w10 hbox hb; have n0_ := Aside0.mk (below_step (by repeat (first | (with_reducible first | exact HB.out | apply below_alloc | apply pw_below_drewN | apply below_drew1) | exact HB.out)) hb); have n1_ := Aside0.mk (hbox); have n2_ := Aside0.mk ((by rw [hg]; exact (below_size (by repeat (first | (with_reducible first | exact HB.out | apply below_alloc | apply pw_below_drewN | apply below_drew1) | exact HB.out))) : w.heap.size ≤ gb170)); have n3_ := Aside0.mk ((by rw [hg]; exact (below_size (by repeat (first | (with_reducible first | exact HB.out | apply below_alloc | apply pw_below_drewN | apply below_drew1) | exact HB.out))) : w.heap.size ≤ gb170)); clear HB; have HB := n0_; have BK170 := n1_; have GW170 := n2_; have GE170 := n3_; clear n0_ n1_ n2_ n3_; clear hb hbox hg; have hcz11_0 : w10.cell? ⟨gb170, 0, none⟩ = some (.string a0_0) := (blk_cell BK170.out 0).trans rfl; have hcz11_1 : w10.cell? ⟨gb170, 1, none⟩ = some (.string a0_1) := (blk_cell BK170.out 1).trans rfl; have hcz11_2 : w10.cell? ⟨gb170, 2, none⟩ = some (.bool a0_2) := (blk_cell BK170.out 2).trans rfl; have hfz11_0 := blk_frozen BK170.out 0; have hfz11_1 := blk_frozen BK170.out 1; have hfz11_2 := blk_frozen BK170.out 2))
        go_ret
        exact ⟨by first | rfl | exact isEmpty_bne_ _ | (simp [errW_none, errW_some] <;> rfl) | (simp [*, errW_none, errW_some] <;> rfl), by repeat (first | (with_reducible first | exact HB.out | apply below_alloc | apply pw_below_drewN | apply below_drew1 | refine below_set ?_ GE170.out) | exact HB.out)⟩
    · rw [if_neg c3] at H
      have c3b0 : decide ((a0_0.size : Int) ≤ 64) = false := decide_eq_false c3
      have c3b1 : decide (a0_0.size ≤ 64) = false := decide_eq_false (by omega)
      clear c3
      obtain rfl := Option.some.inj H
      go_enter Try.func23, Try.ntmps23
      go_wp2_with (first | ((with_reducible refine gate_dst (N := 1) rfl ?_); (try (refine gate_guard (by rfl) ?_; dsimp only)); refine box_event ?hg (N := 1) ?hd (cs := #[.string a0_0, .string a0_1, .bool a0_2]) (t := 32) ?hr ?_; (case hd => rfl); (case hg => rfl); (case hr => first | (go_simp; done) | (go_simp; rfl)); intro gb170 hg w12 hbox hb; have n0_ := Aside0.mk (below_step (by repeat (first | (with_reducible first | exact HB.out | apply below_alloc | apply pw_below_drewN | apply below_drew1) | exact HB.out)) hb); have n1_ := Aside0.mk (hbox); have n2_ := Aside0.mk ((by rw [hg]; exact (below_size (by repeat (first | (with_reducible first | exact HB.out | apply below_alloc | apply pw_below_drewN | apply below_drew1) | exact HB.out))) : w.heap.size ≤ gb170)); have n3_ := Aside0.mk ((by rw [hg]; exact (below_size (by repeat (first | (with_reducible first | exact HB.out | apply below_alloc | apply pw_below_drewN | apply below_drew1) | exact HB.out))) : w.heap.size ≤ gb170)); clear HB; have HB := n0_; have BK170 := n1_; have GW170 := n2_; have GE170 := n3_; clear n0_ n1_ n2_ n3_; clear hb hbox hg; have hcz13_0 : w12.cell? ⟨gb170, 0, none⟩ = some (.string a0_0) := (blk_cell BK170.out 0).trans rfl; have hcz13_1 : w12.cell? ⟨gb170, 1, none⟩ = some (.string a0_1) := (blk_cell BK170.out 1).trans rfl; have hcz13_2 : w12.cell? ⟨gb170, 2, none⟩ = some (.bool a0_2) := (blk_cell BK170.out 2).trans rfl; have hfz13_0 := blk_frozen BK170.out 0; have hfz13_1 := blk_frozen BK170.out 1; have hfz13_2 := blk_frozen BK170.out 2))
      go_ret
      exact ⟨by first | rfl | exact isEmpty_bne_ _ | (simp [errW_none, errW_some] <;> rfl) | (simp [*, errW_none, errW_some] <;> rfl), by repeat (first | (with_reducible first | exact HB.out | apply below_alloc | apply pw_below_drewN | apply below_drew1 | refine below_set ?_ GE170.out) | exact HB.out)⟩
  · rw [if_neg c2] at H
    have c2b0 : decide (1 ≤ (a0_0.size : Int)) = false := decide_eq_false c2
    have c2b1 : decide (1 ≤ a0_0.size) = false := decide_eq_false (by omega)
    clear c2
    obtain rfl := Option.some.inj H
    go_enter Try.func23, Try.ntmps23
    go_wp2_with (first | ((with_reducible refine gate_dst (N := 1) rfl ?_); (try (refine gate_guard (by rfl) ?_; dsimp only)); refine box_event ?hg (N := 1) ?hd (cs := #[.string a0_0, .string a0_1, .bool a0_2]) (t := 32) ?hr ?_; (case hd => rfl); (case hg => rfl); (case hr => first | (go_simp; done) | (go_simp; rfl)); intro gb170 hg w14 hbox hb; have n0_ := Aside0.mk (below_step (by repeat (first | (with_reducible first | exact HB.out | apply below_alloc | apply pw_below_drewN | apply below_drew1) | exact HB.out)) hb); have n1_ := Aside0.mk (hbox); have n2_ := Aside0.mk ((by rw [hg]; exact (below_size (by repeat (first | (with_reducible first | exact HB.out | apply below_alloc | apply pw_below_drewN | apply below_drew1) | exact HB.out))) : w.heap.size ≤ gb170)); have n3_ := Aside0.mk ((by rw [hg]; exact (below_size (by repeat (first | (with_reducible first | exact HB.out | apply below_alloc | apply pw_below_drewN | apply below_drew1) | exact HB.out))) : w.heap.size ≤ gb170)); clear HB; have HB := n0_; have BK170 := n1_; have GW170 := n2_; have GE170 := n3_; clear n0_ n1_ n2_ n3_; clear hb hbox hg; have hcz15_0 : w14.cell? ⟨gb170, 0, none⟩ = some (.string a0_0) := (blk_cell BK170.out 0).trans rfl; have hcz15_1 : w14.cell? ⟨gb170, 1, none⟩ = some (.string a0_1) := (blk_cell BK170.out 1).trans rfl; have hcz15_2 : w14.cell? ⟨gb170, 2, none⟩ = some (.bool a0_2) := (blk_cell BK170.out 2).trans rfl; have hfz15_0 := blk_frozen BK170.out 0; have hfz15_1 := blk_frozen BK170.out 1; have hfz15_2 := blk_frozen BK170.out 2))
    go_ret
    exact ⟨by first | rfl | exact isEmpty_bne_ _ | (simp [errW_none, errW_some] <;> rfl) | (simp [*, errW_none, errW_some] <;> rfl), by repeat (first | (with_reducible first | exact HB.out | apply below_alloc | apply pw_below_drewN | apply below_drew1 | refine below_set ?_ GE170.out) | exact HB.out)⟩

end Go.Proofs.Ytakchpeohmkpkaa.Q
