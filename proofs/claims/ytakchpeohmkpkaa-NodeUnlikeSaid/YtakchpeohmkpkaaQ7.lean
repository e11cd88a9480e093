/- Functions of this seat as plain Lean functions, each with the contract that the machine keeps. No condition. Laid by wip/qprint.py. -/
import Derived.Test.YtakchpeohmkpkaaQ0
import Derived.Test.YtakchpeohmkpkaaQ4
import Derived.Test.YtakchpeohmkpkaaQ5
import Derived.Test.YtakchpeohmkpkaaQ6
import Derived.Test.YtakchpeohmkpkaaH5
namespace Go.Proofs.Ytakchpeohmkpkaa.Q
open Go.RowKit Go.Proofs.YtakchpeohmkpkaaW.PrintWords Go.Proofs.YtakchpeohmkpkaaW.PrintLast Go.Proofs.YtakchpeohmkpkaaW.PrintMore
attribute [local go_sem] max2_int min2_int max_two min_two max_three min_three max_four min_four   -- for this text's walks alone
set_option linter.unusedVariables false
set_option linter.unusedSimpArgs false

/-! ### pumicelaw06_NodeOrder: function 3 -/
mutual
def pumicelaw06_NodeOrder.j0 : Nat → Int → Int → ByteArray → ByteArray → Int → Int → Bool → Option (Bool)
  | 0, _, _, _, _, _, _, _ => none
  | k + 1, x0, x1, x2, x3, x4, x5, x44 => if x44 = true then ((pumicelaw06_alive.f).bind fun t151 => (some t151)) else ((names_Less.f x2 x3).bind fun t152 => ((node_EntryKey.f x0 x2).bind fun t153 => ((node_EntryKey.f x0 x3).bind fun t154 => ((names_Less.f t153 t154).bind fun t155 => (if (t152 != t155) = true then (pumicelaw06_NodeOrder.j1 k x0 x1 x2 x4 x5 true) else ((node_BlockKey.f x0 x4).bind fun t156 => ((node_BlockKey.f x0 x5).bind fun t157 => ((names_Less.f t156 t157).bind fun t158 => (pumicelaw06_NodeOrder.j1 k x0 x1 x2 x4 x5 ((decide (x4 < x5)) != t158))))))))))
def pumicelaw06_NodeOrder.j1 : Nat → Int → Int → ByteArray → Int → Int → Bool → Option (Bool)
  | 0, _, _, _, _, _, _ => none
  | k + 1, x0, x1, x2, x4, x5, x69 => if x69 = true then (none) else ((node_From.f x0 2).bind fun bt159 => ((node_EntryKey.f x0 x2).bind fun t161 => ((pumicelaw06_within.f t161 bt159.1 bt159.2).bind fun t162 => (if t162 = true then ((node_InodeKey.f x0).bind fun t163 => ((pumicelaw06_within.f t163 bt159.1 bt159.2).bind fun t164 => (if t164 = true then (pumicelaw06_NodeOrder.j2 k x0 x1 x2 x4 x5 true) else ((node_BlockKey.f x0 x4).bind fun t165 => ((pumicelaw06_within.f t165 bt159.1 bt159.2).bind fun t166 => (if t166 = true then (pumicelaw06_NodeOrder.j2 k x0 x1 x2 x4 x5 true) else ((node_OrphanKey.f x0).bind fun t167 => ((pumicelaw06_within.f t167 bt159.1 bt159.2).bind fun t168 => (if t168 = true then (pumicelaw06_NodeOrder.j2 k x0 x1 x2 x4 x5 true) else ((node_EntryKey.f x1 x2).bind fun t169 => ((pumicelaw06_within.f t169 bt159.1 bt159.2).bind fun t170 => (pumicelaw06_NodeOrder.j2 k x0 x1 x2 x4 x5 ((x1 != x0) == t170))))))))))))) else (pumicelaw06_NodeOrder.j2 k x0 x1 x2 x4 x5 true)))))
def pumicelaw06_NodeOrder.j2 : Nat → Int → Int → ByteArray → Int → Int → Bool → Option (Bool)
  | 0, _, _, _, _, _, _ => none
  | k + 1, x0, x1, x2, x4, x5, x115 => if x115 = true then (none) else ((node_From.f x0 3).bind fun bt171 => ((node_BlockKey.f x0 x4).bind fun t173 => ((pumicelaw06_within.f t173 bt171.1 bt171.2).bind fun t174 => (if t174 = true then ((node_EntryKey.f x0 x2).bind fun t175 => ((pumicelaw06_within.f t175 bt171.1 bt171.2).bind fun t176 => (if t176 = true then (pumicelaw06_NodeOrder.j3 k x0 x1 true) else ((node_BlockKey.f x1 x5).bind fun t177 => ((pumicelaw06_within.f t177 bt171.1 bt171.2).bind fun t178 => (pumicelaw06_NodeOrder.j3 k x0 x1 ((x1 != x0) == t178))))))) else (pumicelaw06_NodeOrder.j3 k x0 x1 true)))))
def pumicelaw06_NodeOrder.j3 : Nat → Int → Int → Bool → Option (Bool)
  | 0, _, _, _ => none
  | k + 1, x0, x1, x147 => if x147 = true then (none) else ((node_InodeKey.f x0).bind fun t179 => ((node_InodeKey.f x1).bind fun t180 => ((names_Less.f t179 t180).bind fun t181 => (if ((decide (x0 < x1)) == t181) = true then ((pumicelaw06_alive.f).bind fun t182 => (some t182)) else (none)))))
end
def pumicelaw06_NodeOrder.f (k : Nat) (a0 : Int) (a1 : Int) (a2 : ByteArray) (a3 : ByteArray) (a4 : Int) (a5 : Int) : Option (Bool) := if a0 < 1 then (pumicelaw06_NodeOrder.j0 k a0 a1 a2 a3 a4 a5 true) else (if a0 > 4096 then (pumicelaw06_NodeOrder.j0 k a0 a1 a2 a3 a4 a5 true) else (if a1 < 1 then (pumicelaw06_NodeOrder.j0 k a0 a1 a2 a3 a4 a5 true) else (if a1 > 4096 then (pumicelaw06_NodeOrder.j0 k a0 a1 a2 a3 a4 a5 true) else (if a4 < 0 then (pumicelaw06_NodeOrder.j0 k a0 a1 a2 a3 a4 a5 true) else (if a4 > 127 then (pumicelaw06_NodeOrder.j0 k a0 a1 a2 a3 a4 a5 true) else (if a5 < 0 then (pumicelaw06_NodeOrder.j0 k a0 a1 a2 a3 a4 a5 true) else (pumicelaw06_NodeOrder.j0 k a0 a1 a2 a3 a4 a5 (decide (a5 > 127)))))))))
theorem pumicelaw06_NodeOrder.mono_l : ∀ k, (∀ y0 y1 y2 y3 y4 y5 y6, LeO (pumicelaw06_NodeOrder.j0 k y0 y1 y2 y3 y4 y5 y6) (pumicelaw06_NodeOrder.j0 (k + 1) y0 y1 y2 y3 y4 y5 y6)) ∧ (∀ y0 y1 y2 y3 y4 y5, LeO (pumicelaw06_NodeOrder.j1 k y0 y1 y2 y3 y4 y5) (pumicelaw06_NodeOrder.j1 (k + 1) y0 y1 y2 y3 y4 y5)) ∧ (∀ y0 y1 y2 y3 y4 y5, LeO (pumicelaw06_NodeOrder.j2 k y0 y1 y2 y3 y4 y5) (pumicelaw06_NodeOrder.j2 (k + 1) y0 y1 y2 y3 y4 y5)) ∧ (∀ y0 y1 y2, LeO (pumicelaw06_NodeOrder.j3 k y0 y1 y2) (pumicelaw06_NodeOrder.j3 (k + 1) y0 y1 y2))
  | 0 => ⟨fun _ _ _ _ _ _ _ r h => by simp [pumicelaw06_NodeOrder.j0] at h, fun _ _ _ _ _ _ r h => by simp [pumicelaw06_NodeOrder.j1] at h, fun _ _ _ _ _ _ r h => by simp [pumicelaw06_NodeOrder.j2] at h, fun _ _ _ r h => by simp [pumicelaw06_NodeOrder.j3] at h⟩
  | k + 1 => by
    obtain ⟨ih0, ih1, ih2, ih3⟩ := pumicelaw06_NodeOrder.mono_l k
    refine ⟨?_, ?_, ?_, ?_⟩
    · intro y0 y1 y2 y3 y4 y5 y6
      unfold pumicelaw06_NodeOrder.j0
      repeat' first
      | (with_reducible exact ih0 _ _ _ _ _ _ _)
      | (with_reducible exact ih1 _ _ _ _ _ _)
      | (with_reducible exact ih2 _ _ _ _ _ _)
      | (with_reducible exact ih3 _ _ _)
      | (with_reducible exact LeO.refl _)
      | (with_reducible exact LeO.none _)
      | (with_reducible refine LeO.ite ?_ ?_)
      | (with_reducible refine LeO.bind ?_ (fun _ => ?_))
      | exact ih0 _ _ _ _ _ _ _
      | exact ih1 _ _ _ _ _ _
      | exact ih2 _ _ _ _ _ _
      | exact ih3 _ _ _
      | exact LeO.none _
      | refine LeO.ite ?_ ?_
      | refine LeO.bind ?_ (fun _ => ?_)
    · intro y0 y1 y2 y3 y4 y5
      unfold pumicelaw06_NodeOrder.j1
      repeat' first
      | (with_reducible exact ih0 _ _ _ _ _ _ _)
      | (with_reducible exact ih1 _ _ _ _ _ _)
      | (with_reducible exact ih2 _ _ _ _ _ _)
      | (with_reducible exact ih3 _ _ _)
      | (with_reducible exact LeO.refl _)
      | (with_reducible exact LeO.none _)
      | (with_reducible refine LeO.ite ?_ ?_)
      | (with_reducible refine LeO.bind ?_ (fun _ => ?_))
      | exact ih0 _ _ _ _ _ _ _
      | exact ih1 _ _ _ _ _ _
      | exact ih2 _ _ _ _ _ _
      | exact ih3 _ _ _
      | exact LeO.none _
      | refine LeO.ite ?_ ?_
      | refine LeO.bind ?_ (fun _ => ?_)
    · intro y0 y1 y2 y3 y4 y5
      unfold pumicelaw06_NodeOrder.j2
      repeat' first
      | (with_reducible exact ih0 _ _ _ _ _ _ _)
      | (with_reducible exact ih1 _ _ _ _ _ _)
      | (with_reducible exact ih2 _ _ _ _ _ _)
      | (with_reducible exact ih3 _ _ _)
      | (with_reducible exact LeO.refl _)
      | (with_reducible exact LeO.none _)
      | (with_reducible refine LeO.ite ?_ ?_)
      | (with_reducible refine LeO.bind ?_ (fun _ => ?_))
      | exact ih0 _ _ _ _ _ _ _
      | exact ih1 _ _ _ _ _ _
      | exact ih2 _ _ _ _ _ _
      | exact ih3 _ _ _
      | exact LeO.none _
      | refine LeO.ite ?_ ?_
      | refine LeO.bind ?_ (fun _ => ?_)
    · intro y0 y1 y2
      unfold pumicelaw06_NodeOrder.j3
      repeat' first
      | (with_reducible exact ih0 _ _ _ _ _ _ _)
      | (with_reducible exact ih1 _ _ _ _ _ _)
      | (with_reducible exact ih2 _ _ _ _ _ _)
      | (with_reducible exact ih3 _ _ _)
      | (with_reducible exact LeO.refl _)
      | (with_reducible exact LeO.none _)
      | (with_reducible refine LeO.ite ?_ ?_)
      | (with_reducible refine LeO.bind ?_ (fun _ => ?_))
      | exact ih0 _ _ _ _ _ _ _
      | exact ih1 _ _ _ _ _ _
      | exact ih2 _ _ _ _ _ _
      | exact ih3 _ _ _
      | exact LeO.none _
      | refine LeO.ite ?_ ?_
      | refine LeO.bind ?_ (fun _ => ?_)
theorem pumicelaw06_NodeOrder.mono : ∀ a0 a1 a2 a3 a4 a5 k, LeO (pumicelaw06_NodeOrder.f k a0 a1 a2 a3 a4 a5) (pumicelaw06_NodeOrder.f (k + 1) a0 a1 a2 a3 a4 a5) := by
  intro a0 a1 a2 a3 a4 a5 k
  obtain ⟨ih0, ih1, ih2, ih3⟩ := pumicelaw06_NodeOrder.mono_l k
  unfold pumicelaw06_NodeOrder.f
  repeat' first
      | (with_reducible exact ih0 _ _ _ _ _ _ _)
      | (with_reducible exact ih1 _ _ _ _ _ _)
      | (with_reducible exact ih2 _ _ _ _ _ _)
      | (with_reducible exact ih3 _ _ _)
      | (with_reducible exact LeO.refl _)
      | (with_reducible exact LeO.none _)
      | (with_reducible refine LeO.ite ?_ ?_)
      | (with_reducible refine LeO.bind ?_ (fun _ => ?_))
      | exact ih0 _ _ _ _ _ _ _
      | exact ih1 _ _ _ _ _ _
      | exact ih2 _ _ _ _ _ _
      | exact ih3 _ _ _
      | exact LeO.none _
      | refine LeO.ite ?_ ?_
      | refine LeO.bind ?_ (fun _ => ?_)
set_option maxHeartbeats 8000000 in
set_option maxRecDepth 100000 in
theorem pumicelaw06_NodeOrder.calls (k : Nat) (a0 : Int) (a1 : Int) (a2 : ByteArray) (a3 : ByteArray) (a4 : Int) (a5 : Int) (r : Bool) (w : World) (h : pumicelaw06_NodeOrder.f k a0 a1 a2 a3 a4 a5 = some r) :
    Calls Try.prog 3 #[.int .i64 a0, .int .i64 a1, .string a2, .string a3, .int .i64 a4, .int .i64 a5] w fun e w' => e = .returned (.bool r) ∧ Below w.heap.size w w' := by
  have HB := Aside0.mk (Below.refl w.heap.size w)
  have H : (if a0 < 1 then (pumicelaw06_NodeOrder.j0 k a0 a1 a2 a3 a4 a5 true) else (if a0 > 4096 then (pumicelaw06_NodeOrder.j0 k a0 a1 a2 a3 a4 a5 true) else (if a1 < 1 then (pumicelaw06_NodeOrder.j0 k a0 a1 a2 a3 a4 a5 true) else (if a1 > 4096 then (pumicelaw06_NodeOrder.j0 k a0 a1 a2 a3 a4 a5 true) else (if a4 < 0 then (pumicelaw06_NodeOrder.j0 k a0 a1 a2 a3 a4 a5 true) else (if a4 > 127 then (pumicelaw06_NodeOrder.j0 k a0 a1 a2 a3 a4 a5 true) else (if a5 < 0 then (pumicelaw06_NodeOrder.j0 k a0 a1 a2 a3 a4 a5 true) else (pumicelaw06_NodeOrder.j0 k a0 a1 a2 a3 a4 a5 (decide (a5 > 127)))))))))) = some r := h
  clear h
  have HC7 := Aside0.mk H
  clear H
  go_enter Try.func3, Try.ntmps3
  go_upto_region 1 with (fail)
  go_cut [44] (fun v44 wc => ∃ (kq : Nat) (x44_6 : Bool), v44 = .bool x44_6 ∧ Aside0 (pumicelaw06_NodeOrder.j0 kq a0 a1 a2 a3 a4 a5 x44_6 = some r) ∧ Aside0 (kq ≤ k) ∧ Aside0 (Below w.heap.size w wc))
  case first =>
    have H := HC7.out
    clear HC7
    by_cases c8 : a0 < 1
    · rw [if_pos c8] at H
      have c8b0 : decide (a0 < 1) = true := decide_eq_true c8
      clear c8
      (first | rw [c8b0] | (simp only [i64_w, i32_w]; rw [c8b0]) | skip)
      have H' := Aside0.mk H
      clear H
      go_wp2
      go_meet
      case rel => exact ⟨_, (true), (by first | rfl | (simp; done) | (simp [*]; done) | (simp [wrap64]; done)), H', ⟨by first | omega | exact Nat.le_refl _⟩, ⟨by repeat (first | (with_reducible first | exact HB.out | apply below_alloc | apply pw_below_drewN | apply below_drew1) | exact HB.out)⟩⟩
    · rw [if_neg c8] at H
      have c8b0 : decide (a0 < 1) = false := decide_eq_false c8
      clear c8
      (first | rw [c8b0] | (simp only [i64_w, i32_w]; rw [c8b0]) | skip)
      by_cases c9 : a0 > 4096
      · rw [if_pos c9] at H
        have c9b0 : decide (4096 < a0) = true := decide_eq_true c9
        clear c9
        have H' := Aside0.mk H
        clear H
        go_wp2
        go_meet
        case rel => exact ⟨_, (true), (by first | rfl | (simp; done) | (simp [*]; done) | (simp [wrap64]; done)), H', ⟨by first | omega | exact Nat.le_refl _⟩, ⟨by repeat (first | (with_reducible first | exact HB.out | apply below_alloc | apply pw_below_drewN | apply below_drew1) | exact HB.out)⟩⟩
      · rw [if_neg c9] at H
        have c9b0 : decide (4096 < a0) = false := decide_eq_false c9
        clear c9
        by_cases c10 : a1 < 1
        · rw [if_pos c10] at H
          have c10b0 : decide (a1 < 1) = true := decide_eq_true c10
          clear c10
          have H' := Aside0.mk H
          clear H
          go_wp2
          go_meet
          case rel => exact ⟨_, (true), (by first | rfl | (simp; done) | (simp [*]; done) | (simp [wrap64]; done)), H', ⟨by first | omega | exact Nat.le_refl _⟩, ⟨by repeat (first | (with_reducible first | exact HB.out | apply below_alloc | apply pw_below_drewN | apply below_drew1) | exact HB.out)⟩⟩
        · rw [if_neg c10] at H
          have c10b0 : decide (a1 < 1) = false := decide_eq_false c10
          clear c10
          by_cases c11 : a1 > 4096
          · rw [if_pos c11] at H
            have c11b0 : decide (4096 < a1) = true := decide_eq_true c11
            clear c11
            have H' := Aside0.mk H
            clear H
            go_wp2
            go_meet
            case rel => exact ⟨_, (true), (by first | rfl | (simp; done) | (simp [*]; done) | (simp [wrap64]; done)), H', ⟨by first | omega | exact Nat.le_refl _⟩, ⟨by repeat (first | (with_reducible first | exact HB.out | apply below_alloc | apply pw_below_drewN | apply below_drew1) | exact HB.out)⟩⟩
          · rw [if_neg c11] at H
            have c11b0 : decide (4096 < a1) = false := decide_eq_false c11
            clear c11
            by_cases c12 : a4 < 0
            · rw [if_pos c12] at H
              have c12b0 : decide (a4 < 0) = true := decide_eq_true c12
              clear c12
              have H' := Aside0.mk H
              clear H
              go_wp2
              go_meet
              case rel => exact ⟨_, (true), (by first | rfl | (simp; done) | (simp [*]; done) | (simp [wrap64]; done)), H', ⟨by first | omega | exact Nat.le_refl _⟩, ⟨by repeat (first | (with_reducible first | exact HB.out | apply below_alloc | apply pw_below_drewN | apply below_drew1) | exact HB.out)⟩⟩
            · rw [if_neg c12] at H
              have c12b0 : decide (a4 < 0) = false := decide_eq_false c12
              clear c12
              by_cases c13 : a4 > 127
              · rw [if_pos c13] at H
                have c13b0 : decide (127 < a4) = true := decide_eq_true c13
                clear c13
                have H' := Aside0.mk H
                clear H
                go_wp2
                go_meet
                case rel => exact ⟨_, (true), (by first | rfl | (simp; done) | (simp [*]; done) | (simp [wrap64]; done)), H', ⟨by first | omega | exact Nat.le_refl _⟩, ⟨by repeat (first | (with_reducible first | exact HB.out | apply below_alloc | apply pw_below_drewN | apply below_drew1) | exact HB.out)⟩⟩
              · rw [if_neg c13] at H
                have c13b0 : decide (127 < a4) = false := decide_eq_false c13
                clear c13
                by_cases c14 : a5 < 0
                · rw [if_pos c14] at H
                  have c14b0 : decide (a5 < 0) = true := decide_eq_true c14
                  clear c14
                  have H' := Aside0.mk H
                  clear H
                  go_wp2
                  go_meet
                  case rel => exact ⟨_, (true), (by first | rfl | (simp; done) | (simp [*]; done) | (simp [wrap64]; done)), H', ⟨by first | omega | exact Nat.le_refl _⟩, ⟨by repeat (first | (with_reducible first | exact HB.out | apply below_alloc | apply pw_below_drewN | apply below_drew1) | exact HB.out)⟩⟩
                · rw [if_neg c14] at H
                  have c14b0 : decide (a5 < 0) = false := decide_eq_false c14
                  clear c14
                  have H' := Aside0.mk H
                  clear H
                  go_wp2
                  go_meet
                  case rel => exact ⟨_, (decide (a5 > 127)), (by first | rfl | (simp; done) | (simp [*]; done) | (simp [wrap64]; done)), H', ⟨by first | omega | exact Nat.le_refl _⟩, ⟨by repeat (first | (with_reducible first | exact HB.out | apply below_alloc | apply pw_below_drewN | apply below_drew1) | exact HB.out)⟩⟩
  case rest =>
    clear HC7
    try clear c1
    try clear p2
    try clear c3
    try clear p6
    try clear c8
    try clear c8b0
    try clear c9
    try clear c9b0
    try clear c10
    try clear c10b0
    try clear c11
    try clear c11b0
    try clear c12
    try clear c12b0
    try clear c13
    try clear c13b0
    try clear c14
    try clear c14b0
    obtain ⟨kq, x44_6, rfl, HA, HJ6, HB⟩ := hcut
    cases kq with
    | zero => exact absurd HA.out (by simp [pumicelaw06_NodeOrder.j0])
    | succ kj6 =>
      have H := HA.out
      clear HA
      simp only [pumicelaw06_NodeOrder.j0] at H
      by_cases c15 : x44_6 = true
      · subst c15
        have H1 : ((pumicelaw06_alive.f).bind fun t151 => (some t151)) = some r := by rw [if_pos rfl] at H; exact H
        clear H
        have H := H1
        clear H1
        replace H := Option.bind_eq_some_iff.mp H
        obtain ⟨t151, A160, H⟩ := H
        replace H : (some t151) = some r := H
        have A16 := Aside0.mk A160
        clear A160
        obtain rfl := Option.some.inj H
        go_wp2_with (first | ((with_reducible refine gate_callee (f := 10) rfl ?_); refine goesL_ (some 45) rfl rfl Try.func10 (by kernel_rfl) rfl #[] rfl (by (try simp only [List.map_toArray, List.map_cons, List.map_nil]); first | done | rfl | (simp only [List.length_drop, List.length_take]; rfl)) ?_; (with_reducible refine (pumicelaw06_alive.calls  t151 _ A16.out).mono ?_); rintro e w17 ⟨rfl, hb⟩; refine ⟨_, rfl, ?_⟩; have n0_ := Aside0.mk (below_step (by repeat (first | (with_reducible first | exact HB.out | apply below_alloc | apply pw_below_drewN | apply below_drew1) | exact HB.out)) hb); clear HB; have HB := n0_; clear n0_; (try clear hb); (try clear hb2); (try clear hk); (try clear hi)))
        go_ret
        exact ⟨by first | rfl | exact isEmpty_bne_ _ | (simp [errW_none, errW_some] <;> rfl) | (simp [*, errW_none, errW_some] <;> rfl), by repeat (first | (with_reducible first | exact HB.out | apply below_alloc | apply pw_below_drewN | apply below_drew1) | exact HB.out)⟩
      · replace c15 := Bool.eq_false_iff.mpr c15
        subst c15
        have H1 : ((names_Less.f a2 a3).bind fun t152 => ((node_EntryKey.f a0 a2).bind fun t153 => ((node_EntryKey.f a0 a3).bind fun t154 => ((names_Less.f t153 t154).bind fun t155 => (if (t152 != t155) = true then (pumicelaw06_NodeOrder.j1 kj6 a0 a1 a2 a4 a5 true) else ((node_BlockKey.f a0 a4).bind fun t156 => ((node_BlockKey.f a0 a5).bind fun t157 => ((names_Less.f t156 t157).bind fun t158 => (pumicelaw06_NodeOrder.j1 kj6 a0 a1 a2 a4 a5 ((decide (a4 < a5)) != t158)))))))))) = some r := by rw [if_neg (show ¬ (false = true) by decide)] at H; exact H
        clear H
        have H := H1
        clear H1
        have HC18 := Aside0.mk H
        clear H
        go_upto_region 3 with (fail)
        go_cut [69] (fun v69 wc => ∃ (kq : Nat) (x69_17 : Bool), v69 = .bool x69_17 ∧ Aside0 (pumicelaw06_NodeOrder.j1 kq a0 a1 a2 a4 a5 x69_17 = some r) ∧ Aside0 (kq ≤ kj6) ∧ Aside0 (Below w.heap.size w wc))
        case first =>
          have H := HC18.out
          clear HC18
          replace H := Option.bind_eq_some_iff.mp H
          obtain ⟨t152, A190, H⟩ := H
          replace H : ((node_EntryKey.f a0 a2).bind fun t153 => ((node_EntryKey.f a0 a3).bind fun t154 => ((names_Less.f t153 t154).bind fun t155 => (if (t152 != t155) = true then (pumicelaw06_NodeOrder.j1 kj6 a0 a1 a2 a4 a5 true) else ((node_BlockKey.f a0 a4).bind fun t156 => ((node_BlockKey.f a0 a5).bind fun t157 => ((names_Less.f t156 t157).bind fun t158 => (pumicelaw06_NodeOrder.j1 kj6 a0 a1 a2 a4 a5 ((decide (a4 < a5)) != t158))))))))) = some r := H
          have A19 := Aside0.mk A190
          clear A190
          replace H := Option.bind_eq_some_iff.mp H
          obtain ⟨t153, A200, H⟩ := H
          replace H : ((node_EntryKey.f a0 a3).bind fun t154 => ((names_Less.f t153 t154).bind fun t155 => (if (t152 != t155) = true then (pumicelaw06_NodeOrder.j1 kj6 a0 a1 a2 a4 a5 true) else ((node_BlockKey.f a0 a4).bind fun t156 => ((node_BlockKey.f a0 a5).bind fun t157 => ((names_Less.f t156 t157).bind fun t158 => (pumicelaw06_NodeOrder.j1 kj6 a0 a1 a2 a4 a5 ((decide (a4 < a5)) != t158)))))))) = some r := H
          have A20 := Aside0.mk A200
          clear A200
          replace H := Option.bind_eq_some_iff.mp H
          obtain ⟨t154, A210, H⟩ := H
          replace H : ((names_Less.f t153 t154).bind fun t155 => (if (t152 != t155) = true then (pumicelaw06_NodeOrder.j1 kj6 a0 a1 a2 a4 a5 true) else ((node_BlockKey.f a0 a4).bind fun t156 => ((node_BlockKey.f a0 a5).bind fun t157 => ((names_Less.f t156 t157).bind fun t158 => (pumicelaw06_NodeOrder.j1 kj6 a0 a1 a2 a4 a5 ((decide (a4 < a5)) != t158))))))) = some r := H
          have A21 := Aside0.mk A210
          clear A210
          replace H := Option.bind_eq_some_iff.mp H
          obtain ⟨t155, A220, H⟩ := H
          replace H : (if (t152 != t155) = true then (pumicelaw06_NodeOrder.j1 kj6 a0 a1 a2 a4 a5 true) else ((node_BlockKey.f a0 a4).bind fun t156 => ((node_BlockKey.f a0 a5).bind fun t157 => ((names_Less.f t156 t157).bind fun t158 => (pumicelaw06_NodeOrder.j1 kj6 a0 a1 a2 a4 a5 ((decide (a4 < a5)) != t158)))))) = some r := H
          have A22 := Aside0.mk A220
          clear A220
          by_cases c23 : (t152 != t155) = true
          · rw [if_pos c23] at H
            have c23b0 : (t152 != t155) = true := c23
            (try (have c23b1 : decide (t152 = t155) = false := by simpa using c23))
            (try (have c23b2 : (t152 == t155) = false := by simpa using c23))
            (try (have c23b3 : ¬ (t152 = t155) := by simpa using c23))
            clear c23
            (first | rw [c23b0] | (simp only [i64_w, i32_w]; rw [c23b0]) | skip)
            have H' := Aside0.mk H
            clear H
            go_wp2_with (first | ((with_reducible refine gate_callee (f := 11) rfl ?_); refine goesL_ (some 48) rfl rfl Try.func11 (by kernel_rfl) rfl #[.string a2, .string a3] rfl (by (try simp only [List.map_toArray, List.map_cons, List.map_nil]); first | done | rfl | (simp only [List.length_drop, List.length_take]; rfl)) ?_; (with_reducible refine (names_Less.calls a2 a3 t152 _ A19.out).mono ?_); rintro e w' ⟨rfl, ⟨nd, rfl⟩⟩; refine ⟨_, rfl, ?_⟩) | ((with_reducible refine gate_callee (f := 12) rfl ?_); refine goesL_ (some 51) rfl rfl Try.func12 (by kernel_rfl) rfl #[.int .i64 a0, .string a2] rfl (by (try simp only [List.map_toArray, List.map_cons, List.map_nil]); first | done | rfl | (simp only [List.length_drop, List.length_take]; rfl)) ?_; (with_reducible refine (node_EntryKey.calls a0 a2 t153 _ A20.out).mono ?_); rintro e w24 ⟨rfl, hb⟩; refine ⟨_, rfl, ?_⟩; have n0_ := Aside0.mk (below_step (by repeat (first | (with_reducible first | exact HB.out | apply below_alloc | apply pw_below_drewN | apply below_drew1) | exact HB.out)) hb); clear HB; have HB := n0_; clear n0_; (try clear hb); (try clear hb2); (try clear hk); (try clear hi)) | ((with_reducible refine gate_callee (f := 12) rfl ?_); refine goesL_ (some 54) rfl rfl Try.func12 (by kernel_rfl) rfl #[.int .i64 a0, .string a3] rfl (by (try simp only [List.map_toArray, List.map_cons, List.map_nil]); first | done | rfl | (simp only [List.length_drop, List.length_take]; rfl)) ?_; (with_reducible refine (node_EntryKey.calls a0 a3 t154 _ A21.out).mono ?_); rintro e w25 ⟨rfl, hb⟩; refine ⟨_, rfl, ?_⟩; have n0_ := Aside0.mk (below_step (by repeat (first | (with_reducible first | exact HB.out | apply below_alloc | apply pw_below_drewN | apply below_drew1) | exact HB.out)) hb); clear HB; have HB := n0_; clear n0_; (try clear hb); (try clear hb2); (try clear hk); (try clear hi)) | ((with_reducible refine gate_callee (f := 11) rfl ?_); refine goesL_ (some 55) rfl rfl Try.func11 (by kernel_rfl) rfl #[.string t153, .string t154] rfl (by (try simp only [List.map_toArray, List.map_cons, List.map_nil]); first | done | rfl | (simp only [List.length_drop, List.length_take]; rfl)) ?_; (with_reducible refine (names_Less.calls t153 t154 t155 _ A22.out).mono ?_); rintro e w' ⟨rfl, ⟨nd, rfl⟩⟩; refine ⟨_, rfl, ?_⟩))
            go_meet
            case rel => exact ⟨_, (true), (by first | rfl | (simp; done) | (simp [*]; done) | (simp [wrap64]; done)), H', ⟨by have := HJ6.out; first | omega | exact Nat.le_refl _⟩, ⟨by repeat (first | (with_reducible first | exact HB.out | apply below_alloc | apply pw_below_drewN | apply below_drew1) | exact HB.out)⟩⟩
          · rw [if_neg c23] at H
            have c23b0 : (t152 != t155) = false := by simpa using c23
            (try (have c23b1 : decide (t152 = t155) = true := by simpa using c23))
            (try (have c23b2 : (t152 == t155) = true := by simpa using c23))
            clear c23
            (first | rw [c23b0] | (simp only [i64_w, i32_w]; rw [c23b0]) | skip)
            replace H := Option.bind_eq_some_iff.mp H
            obtain ⟨t156, A260, H⟩ := H
            replace H : ((node_BlockKey.f a0 a5).bind fun t157 => ((names_Less.f t156 t157).bind fun t158 => (pumicelaw06_NodeOrder.j1 kj6 a0 a1 a2 a4 a5 ((decide (a4 < a5)) != t158)))) = some r := H
            have A26 := Aside0.mk A260
            clear A260
            replace H := Option.bind_eq_some_iff.mp H
            obtain ⟨t157, A270, H⟩ := H
            replace H : ((names_Less.f t156 t157).bind fun t158 => (pumicelaw06_NodeOrder.j1 kj6 a0 a1 a2 a4 a5 ((decide (a4 < a5)) != t158))) = some r := H
            have A27 := Aside0.mk A270
            clear A270
            replace H := Option.bind_eq_some_iff.mp H
            obtain ⟨t158, A280, H⟩ := H
            replace H : (pumicelaw06_NodeOrder.j1 kj6 a0 a1 a2 a4 a5 ((decide (a4 < a5)) != t158)) = some r := H
            have A28 := Aside0.mk A280
            clear A280
            have H' := Aside0.mk H
            clear H
            go_wp2_with (first | ((with_reducible refine gate_callee (f := 11) rfl ?_); refine goesL_ (some 48) rfl rfl Try.func11 (by kernel_rfl) rfl #[.string a2, .string a3] rfl (by (try simp only [List.map_toArray, List.map_cons, List.map_nil]); first | done | rfl | (simp only [List.length_drop, List.length_take]; rfl)) ?_; (with_reducible refine (names_Less.calls a2 a3 t152 _ A19.out).mono ?_); rintro e w' ⟨rfl, ⟨nd, rfl⟩⟩; refine ⟨_, rfl, ?_⟩) | ((with_reducible refine gate_callee (f := 12) rfl ?_); refine goesL_ (some 51) rfl rfl Try.func12 (by kernel_rfl) rfl #[.int .i64 a0, .string a2] rfl (by (try simp only [List.map_toArray, List.map_cons, List.map_nil]); first | done | rfl | (simp only [List.length_drop, List.length_take]; rfl)) ?_; (with_reducible refine (node_EntryKey.calls a0 a2 t153 _ A20.out).mono ?_); rintro e w29 ⟨rfl, hb⟩; refine ⟨_, rfl, ?_⟩; have n0_ := Aside0.mk (below_step (by repeat (first | (with_reducible first | exact HB.out | apply below_alloc | apply pw_below_drewN | apply below_drew1) | exact HB.out)) hb); clear HB; have HB := n0_; clear n0_; (try clear hb); (try clear hb2); (try clear hk); (try clear hi)) | ((with_reducible refine gate_callee (f := 12) rfl ?_); refine goesL_ (some 54) rfl rfl Try.func12 (by kernel_rfl) rfl #[.int .i64 a0, .string a3] rfl (by (try simp only [List.map_toArray, List.map_cons, List.map_nil]); first | done | rfl | (simp only [List.length_drop, List.length_take]; rfl)) ?_; (with_reducible refine (node_EntryKey.calls a0 a3 t154 _ A21.out).mono ?_); rintro e w30 ⟨rfl, hb⟩; refine ⟨_, rfl, ?_⟩; have n0_ := Aside0.mk (below_step (by repeat (first | (with_reducible first | exact HB.out | apply below_alloc | apply pw_below_drewN | apply below_drew1) | exact HB.out)) hb); clear HB; have HB := n0_; clear n0_; (try clear hb); (try clear hb2); (try clear hk); (try clear hi)) | ((with_reducible refine gate_callee (f := 11) rfl ?_); refine goesL_ (some 55) rfl rfl Try.func11 (by kernel_rfl) rfl #[.string t153, .string t154] rfl (by (try simp only [List.map_toArray, List.map_cons, List.map_nil]); first | done | rfl | (simp only [List.length_drop, List.length_take]; rfl)) ?_; (with_reducible refine (names_Less.calls t153 t154 t155 _ A22.out).mono ?_); rintro e w' ⟨rfl, ⟨nd, rfl⟩⟩; refine ⟨_, rfl, ?_⟩) | (go_at_call 13; (with_reducible refine (node_BlockKey.calls a0 a4 t156 _ A26.out).mono ?_); rintro e w31 ⟨rfl, hb⟩; have n0_ := Aside0.mk (below_step (by repeat (first | (with_reducible first | exact HB.out | apply below_alloc | apply pw_below_drewN | apply below_drew1) | exact HB.out)) hb); clear HB; have HB := n0_; clear n0_; (try clear hb); (try clear hb2); (try clear hk); (try clear hi)) | (go_at_call 13; (with_reducible refine (node_BlockKey.calls a0 a5 t157 _ A27.out).mono ?_); rintro e w32 ⟨rfl, hb⟩; have n0_ := Aside0.mk (below_step (by repeat (first | (with_reducible first | exact HB.out | apply below_alloc | apply pw_below_drewN | apply below_drew1) | exact HB.out)) hb); clear HB; have HB := n0_; clear n0_; (try clear hb); (try clear hb2); (try clear hk); (try clear hi)) | (go_at_call 11; (with_reducible refine (names_Less.calls t156 t157 t158 _ A28.out).mono ?_); rintro e w' ⟨rfl, ⟨nd, rfl⟩⟩))
            go_meet
            case rel => exact ⟨_, (((decide (a4 < a5)) != t158)), (by first | rfl | (simp; done) | (simp [*]; done) | (simp [wrap64]; done)), H', ⟨by have := HJ6.out; first | omega | exact Nat.le_refl _⟩, ⟨by repeat (first | (with_reducible first | exact HB.out | apply below_alloc | apply pw_below_drewN | apply below_drew1) | exact HB.out)⟩⟩
        case rest =>
          clear HC18
          try clear c1
          try clear c2
          try clear p2
          try clear c3
          try clear p6
          try clear c8
          try clear c8b0
          try clear c9
          try clear c9b0
          try clear c10
          try clear c10b0
          try clear c11
          try clear c11b0
          try clear c12
          try clear c12b0
          try clear c13
          try clear c13b0
          try clear c14
          try clear c14b0
          try clear c15
          try clear c23
          try clear c23b0
          try clear c23b1
          try clear c23b2
          try clear p2
          try clear p6
          obtain ⟨kq, x69_17, rfl, HA, HJ17, HB⟩ := hcut
          cases kq with
          | zero => exact absurd HA.out (by simp [pumicelaw06_NodeOrder.j1])
          | succ kj17 =>
            have H := HA.out
            clear HA
            simp only [pumicelaw06_NodeOrder.j1] at H
            by_cases c33 : x69_17 = true
            · subst c33
              have H1 : (none) = some r := by rw [if_pos rfl] at H; exact H
              clear H
              have H := H1
              clear H1
              exact absurd H (by simp)
            · replace c33 := Bool.eq_false_iff.mpr c33
              subst c33
              have H1 : ((node_From.f a0 2).bind fun bt159 => ((node_EntryKey.f a0 a2).bind fun t161 => ((pumicelaw06_within.f t161 bt159.1 bt159.2).bind fun t162 => (if t162 = true then ((node_InodeKey.f a0).bind fun t163 => ((pumicelaw06_within.f t163 bt159.1 bt159.2).bind fun t164 => (if t164 = true then (pumicelaw06_NodeOrder.j2 kj17 a0 a1 a2 a4 a5 true) else ((node_BlockKey.f a0 a4).bind fun t165 => ((pumicelaw06_within.f t165 bt159.1 bt159.2).bind fun t166 => (if t166 = true then (pumicelaw06_NodeOrder.j2 kj17 a0 a1 a2 a4 a5 true) else ((node_OrphanKey.f a0).bind fun t167 => ((pumicelaw06_within.f t167 bt159.1 bt159.2).bind fun t168 => (if t168 = true then (pumicelaw06_NodeOrder.j2 kj17 a0 a1 a2 a4 a5 true) else ((node_EntryKey.f a1 a2).bind fun t169 => ((pumicelaw06_within.f t169 bt159.1 bt159.2).bind fun t170 => (pumicelaw06_NodeOrder.j2 kj17 a0 a1 a2 a4 a5 ((a1 != a0) == t170))))))))))))) else (pumicelaw06_NodeOrder.j2 kj17 a0 a1 a2 a4 a5 true))))) = some r := by rw [if_neg (show ¬ (false = true) by decide)] at H; exact H
              clear H
              have H := H1
              clear H1
              replace H := Option.bind_eq_some_iff.mp H
              obtain ⟨⟨t159, t160⟩, A340, H⟩ := H
              replace H : ((node_EntryKey.f a0 a2).bind fun t161 => ((pumicelaw06_within.f t161 t159 t160).bind fun t162 => (if t162 = true then ((node_InodeKey.f a0).bind fun t163 => ((pumicelaw06_within.f t163 t159 t160).bind fun t164 => (if t164 = true then (pumicelaw06_NodeOrder.j2 kj17 a0 a1 a2 a4 a5 true) else ((node_BlockKey.f a0 a4).bind fun t165 => ((pumicelaw06_within.f t165 t159 t160).bind fun t166 => (if t166 = true then (pumicelaw06_NodeOrder.j2 kj17 a0 a1 a2 a4 a5 true) else ((node_OrphanKey.f a0).bind fun t167 => ((pumicelaw06_within.f t167 t159 t160).bind fun t168 => (if t168 = true then (pumicelaw06_NodeOrder.j2 kj17 a0 a1 a2 a4 a5 true) else ((node_EntryKey.f a1 a2).bind fun t169 => ((pumicelaw06_within.f t169 t159 t160).bind fun t170 => (pumicelaw06_NodeOrder.j2 kj17 a0 a1 a2 a4 a5 ((a1 != a0) == t170))))))))))))) else (pumicelaw06_NodeOrder.j2 kj17 a0 a1 a2 a4 a5 true)))) = some r := H
              have A34 := Aside0.mk A340
              clear A340
              have HC35 := Aside0.mk H
              clear H
              go_upto_region 6 with (first | ((with_reducible refine gate_callee (f := 14) rfl ?_); refine goesL_ (some 72) rfl rfl Try.func14 (by kernel_rfl) rfl #[.int .i64 a0, .int .i64 2] rfl (by (try simp only [List.map_toArray, List.map_cons, List.map_nil]); first | done | rfl | (simp only [List.length_drop, List.length_take]; rfl)) ?_; (with_reducible refine (node_From.calls a0 2 t159 t160 _ A34.out).mono ?_); rintro e w36 ⟨rfl, hb⟩; refine ⟨_, rfl, ?_⟩; have n0_ := Aside0.mk (below_step (by repeat (first | (with_reducible first | exact HB.out | apply below_alloc | apply pw_below_drewN | apply below_drew1) | exact HB.out)) hb); clear HB; have HB := n0_; clear n0_; (try clear hb); (try clear hb2); (try clear hk); (try clear hi)))
              (try simp only [Act.put, List.setIfInBounds_toArray, List.set_cons_zero, List.set_cons_succ])
              go_cut [115] (fun v115 wc => ∃ (kq : Nat) (x115_34 : Bool), v115 = .bool x115_34 ∧ Aside0 (pumicelaw06_NodeOrder.j2 kq a0 a1 a2 a4 a5 x115_34 = some r) ∧ Aside0 (kq ≤ kj17) ∧ Aside0 (Below w.heap.size w wc))
              case first =>
                have H := HC35.out
                clear HC35
                replace H := Option.bind_eq_some_iff.mp H
                obtain ⟨t161, A370, H⟩ := H
                replace H : ((pumicelaw06_within.f t161 t159 t160).bind fun t162 => (if t162 = true then ((node_InodeKey.f a0).bind fun t163 => ((pumicelaw06_within.f t163 t159 t160).bind fun t164 => (if t164 = true then (pumicelaw06_NodeOrder.j2 kj17 a0 a1 a2 a4 a5 true) else ((node_BlockKey.f a0 a4).bind fun t165 => ((pumicelaw06_within.f t165 t159 t160).bind fun t166 => (if t166 = true then (pumicelaw06_NodeOrder.j2 kj17 a0 a1 a2 a4 a5 true) else ((node_OrphanKey.f a0).bind fun t167 => ((pumicelaw06_within.f t167 t159 t160).bind fun t168 => (if t168 = true then (pumicelaw06_NodeOrder.j2 kj17 a0 a1 a2 a4 a5 true) else ((node_EntryKey.f a1 a2).bind fun t169 => ((pumicelaw06_within.f t169 t159 t160).bind fun t170 => (pumicelaw06_NodeOrder.j2 kj17 a0 a1 a2 a4 a5 ((a1 != a0) == t170))))))))))))) else (pumicelaw06_NodeOrder.j2 kj17 a0 a1 a2 a4 a5 true))) = some r := H
                have A37 := Aside0.mk A370
                clear A370
                replace H := Option.bind_eq_some_iff.mp H
                obtain ⟨t162, A380, H⟩ := H
                replace H : (if t162 = true then ((node_InodeKey.f a0).bind fun t163 => ((pumicelaw06_within.f t163 t159 t160).bind fun t164 => (if t164 = true then (pumicelaw06_NodeOrder.j2 kj17 a0 a1 a2 a4 a5 true) else ((node_BlockKey.f a0 a4).bind fun t165 => ((pumicelaw06_within.f t165 t159 t160).bind fun t166 => (if t166 = true then (pumicelaw06_NodeOrder.j2 kj17 a0 a1 a2 a4 a5 true) else ((node_OrphanKey.f a0).bind fun t167 => ((pumicelaw06_within.f t167 t159 t160).bind fun t168 => (if t168 = true then (pumicelaw06_NodeOrder.j2 kj17 a0 a1 a2 a4 a5 true) else ((node_EntryKey.f a1 a2).bind fun t169 => ((pumicelaw06_within.f t169 t159 t160).bind fun t170 => (pumicelaw06_NodeOrder.j2 kj17 a0 a1 a2 a4 a5 ((a1 != a0) == t170))))))))))))) else (pumicelaw06_NodeOrder.j2 kj17 a0 a1 a2 a4 a5 true)) = some r := H
                have A38 := Aside0.mk A380
                clear A380
                by_cases c39 : t162 = true
                · subst c39
                  have H1 : ((node_InodeKey.f a0).bind fun t163 => ((pumicelaw06_within.f t163 t159 t160).bind fun t164 => (if t164 = true then (pumicelaw06_NodeOrder.j2 kj17 a0 a1 a2 a4 a5 true) else ((node_BlockKey.f a0 a4).bind fun t165 => ((pumicelaw06_within.f t165 t159 t160).bind fun t166 => (if t166 = true then (pumicelaw06_NodeOrder.j2 kj17 a0 a1 a2 a4 a5 true) else ((node_OrphanKey.f a0).bind fun t167 => ((pumicelaw06_within.f t167 t159 t160).bind fun t168 => (if t168 = true then (pumicelaw06_NodeOrder.j2 kj17 a0 a1 a2 a4 a5 true) else ((node_EntryKey.f a1 a2).bind fun t169 => ((pumicelaw06_within.f t169 t159 t160).bind fun t170 => (pumicelaw06_NodeOrder.j2 kj17 a0 a1 a2 a4 a5 ((a1 != a0) == t170))))))))))))) = some r := by rw [if_pos rfl] at H; exact H
                  clear H
                  have H := H1
                  clear H1
                  replace H := Option.bind_eq_some_iff.mp H
                  obtain ⟨t163, A400, H⟩ := H
                  replace H : ((pumicelaw06_within.f t163 t159 t160).bind fun t164 => (if t164 = true then (pumicelaw06_NodeOrder.j2 kj17 a0 a1 a2 a4 a5 true) else ((node_BlockKey.f a0 a4).bind fun t165 => ((pumicelaw06_within.f t165 t159 t160).bind fun t166 => (if t166 = true then (pumicelaw06_NodeOrder.j2 kj17 a0 a1 a2 a4 a5 true) else ((node_OrphanKey.f a0).bind fun t167 => ((pumicelaw06_within.f t167 t159 t160).bind fun t168 => (if t168 = true then (pumicelaw06_NodeOrder.j2 kj17 a0 a1 a2 a4 a5 true) else ((node_EntryKey.f a1 a2).bind fun t169 => ((pumicelaw06_within.f t169 t159 t160).bind fun t170 => (pumicelaw06_NodeOrder.j2 kj17 a0 a1 a2 a4 a5 ((a1 != a0) == t170)))))))))))) = some r := H
                  have A40 := Aside0.mk A400
                  clear A400
                  replace H := Option.bind_eq_some_iff.mp H
                  obtain ⟨t164, A410, H⟩ := H
                  replace H : (if t164 = true then (pumicelaw06_NodeOrder.j2 kj17 a0 a1 a2 a4 a5 true) else ((node_BlockKey.f a0 a4).bind fun t165 => ((pumicelaw06_within.f t165 t159 t160).bind fun t166 => (if t166 = true then (pumicelaw06_NodeOrder.j2 kj17 a0 a1 a2 a4 a5 true) else ((node_OrphanKey.f a0).bind fun t167 => ((pumicelaw06_within.f t167 t159 t160).bind fun t168 => (if t168 = true then (pumicelaw06_NodeOrder.j2 kj17 a0 a1 a2 a4 a5 true) else ((node_EntryKey.f a1 a2).bind fun t169 => ((pumicelaw06_within.f t169 t159 t160).bind fun t170 => (pumicelaw06_NodeOrder.j2 kj17 a0 a1 a2 a4 a5 ((a1 != a0) == t170))))))))))) = some r := H
                  have A41 := Aside0.mk A410
                  clear A410
                  by_cases c42 : t164 = true
                  · subst c42
                    have H1 : (pumicelaw06_NodeOrder.j2 kj17 a0 a1 a2 a4 a5 true) = some r := by rw [if_pos rfl] at H; exact H
                    clear H
                    have H := H1
                    clear H1
                    have H' := Aside0.mk H
                    clear H
                    go_wp2_with (first | ((with_reducible refine gate_callee (f := 12) rfl ?_); refine goesL_ (some 77) rfl rfl Try.func12 (by kernel_rfl) rfl #[.int .i64 a0, .string a2] rfl (by (try simp only [List.map_toArray, List.map_cons, List.map_nil]); first | done | rfl | (simp only [List.length_drop, List.length_take]; rfl)) ?_; (with_reducible refine (node_EntryKey.calls a0 a2 t161 _ A37.out).mono ?_); rintro e w43 ⟨rfl, hb⟩; refine ⟨_, rfl, ?_⟩; have n0_ := Aside0.mk (below_step (by repeat (first | (with_reducible first | exact HB.out | apply below_alloc | apply pw_below_drewN | apply below_drew1) | exact HB.out)) hb); clear HB; have HB := n0_; clear n0_; (try clear hb); (try clear hb2); (try clear hk); (try clear hi)) | ((with_reducible refine gate_callee (f := 15) rfl ?_); refine goesL_ (some 80) rfl rfl Try.func15 (by kernel_rfl) rfl #[.string t161, .string t159, .string t160] rfl (by (try simp only [List.map_toArray, List.map_cons, List.map_nil]); first | done | rfl | (simp only [List.length_drop, List.length_take]; rfl)) ?_; (with_reducible refine (pumicelaw06_within.calls t161 t159 t160 true _ A38.out).mono ?_); rintro e w' ⟨rfl, ⟨nd, rfl⟩⟩; refine ⟨_, rfl, ?_⟩) | (go_at_call 16; (with_reducible refine (node_InodeKey.calls a0 t163 _ A40.out).mono ?_); rintro e w44 ⟨rfl, hb⟩; have n0_ := Aside0.mk (below_step (by repeat (first | (with_reducible first | exact HB.out | apply below_alloc | apply pw_below_drewN | apply below_drew1) | exact HB.out)) hb); clear HB; have HB := n0_; clear n0_; (try clear hb); (try clear hb2); (try clear hk); (try clear hi)) | (go_at_call 15; (with_reducible refine (pumicelaw06_within.calls t163 t159 t160 true _ A41.out).mono ?_); rintro e w' ⟨rfl, ⟨nd, rfl⟩⟩))
                    go_meet
                    case rel => exact ⟨_, (true), (by first | rfl | (simp; done) | (simp [*]; done) | (simp [wrap64]; done)), H', ⟨by have := HJ6.out; have := HJ17.out; first | omega | exact Nat.le_refl _⟩, ⟨by repeat (first | (with_reducible first | exact HB.out | apply below_alloc | apply pw_below_drewN | apply below_drew1) | exact HB.out)⟩⟩
                  · replace c42 := Bool.eq_false_iff.mpr c42
                    subst c42
                    have H1 : ((node_BlockKey.f a0 a4).bind fun t165 => ((pumicelaw06_within.f t165 t159 t160).bind fun t166 => (if t166 = true then (pumicelaw06_NodeOrder.j2 kj17 a0 a1 a2 a4 a5 true) else ((node_OrphanKey.f a0).bind fun t167 => ((pumicelaw06_within.f t167 t159 t160).bind fun t168 => (if t168 = true then (pumicelaw06_NodeOrder.j2 kj17 a0 a1 a2 a4 a5 true) else ((node_EntryKey.f a1 a2).bind fun t169 => ((pumicelaw06_within.f t169 t159 t160).bind fun t170 => (pumicelaw06_NodeOrder.j2 kj17 a0 a1 a2 a4 a5 ((a1 != a0) == t170)))))))))) = some r := by rw [if_neg (show ¬ (false = true) by decide)] at H; exact H
                    clear H
                    have H := H1
                    clear H1
                    replace H := Option.bind_eq_some_iff.mp H
                    obtain ⟨t165, A450, H⟩ := H
                    replace H : ((pumicelaw06_within.f t165 t159 t160).bind fun t166 => (if t166 = true then (pumicelaw06_NodeOrder.j2 kj17 a0 a1 a2 a4 a5 true) else ((node_OrphanKey.f a0).bind fun t167 => ((pumicelaw06_within.f t167 t159 t160).bind fun t168 => (if t168 = true then (pumicelaw06_NodeOrder.j2 kj17 a0 a1 a2 a4 a5 true) else ((node_EntryKey.f a1 a2).bind fun t169 => ((pumicelaw06_within.f t169 t159 t160).bind fun t170 => (pumicelaw06_NodeOrder.j2 kj17 a0 a1 a2 a4 a5 ((a1 != a0) == t170))))))))) = some r := H
                    have A45 := Aside0.mk A450
                    clear A450
                    replace H := Option.bind_eq_some_iff.mp H
                    obtain ⟨t166, A460, H⟩ := H
                    replace H : (if t166 = true then (pumicelaw06_NodeOrder.j2 kj17 a0 a1 a2 a4 a5 true) else ((node_OrphanKey.f a0).bind fun t167 => ((pumicelaw06_within.f t167 t159 t160).bind fun t168 => (if t168 = true then (pumicelaw06_NodeOrder.j2 kj17 a0 a1 a2 a4 a5 true) else ((node_EntryKey.f a1 a2).bind fun t169 => ((pumicelaw06_within.f t169 t159 t160).bind fun t170 => (pumicelaw06_NodeOrder.j2 kj17 a0 a1 a2 a4 a5 ((a1 != a0) == t170)))))))) = some r := H
                    have A46 := Aside0.mk A460
                    clear A460
                    by_cases c47 : t166 = true
                    · subst c47
                      have H1 : (pumicelaw06_NodeOrder.j2 kj17 a0 a1 a2 a4 a5 true) = some r := by rw [if_pos rfl] at H; exact H
                      clear H
                      have H := H1
                      clear H1
                      have H' := Aside0.mk H
                      clear H
                      go_wp2_with (first | ((with_reducible refine gate_callee (f := 12) rfl ?_); refine goesL_ (some 77) rfl rfl Try.func12 (by kernel_rfl) rfl #[.int .i64 a0, .string a2] rfl (by (try simp only [List.map_toArray, List.map_cons, List.map_nil]); first | done | rfl | (simp only [List.length_drop, List.length_take]; rfl)) ?_; (with_reducible refine (node_EntryKey.calls a0 a2 t161 _ A37.out).mono ?_); rintro e w48 ⟨rfl, hb⟩; refine ⟨_, rfl, ?_⟩; have n0_ := Aside0.mk (below_step (by repeat (first | (with_reducible first | exact HB.out | apply below_alloc | apply pw_below_drewN | apply below_drew1) | exact HB.out)) hb); clear HB; have HB := n0_; clear n0_; (try clear hb); (try clear hb2); (try clear hk); (try clear hi)) | ((with_reducible refine gate_callee (f := 15) rfl ?_); refine goesL_ (some 80) rfl rfl Try.func15 (by kernel_rfl) rfl #[.string t161, .string t159, .string t160] rfl (by (try simp only [List.map_toArray, List.map_cons, List.map_nil]); first | done | rfl | (simp only [List.length_drop, List.length_take]; rfl)) ?_; (with_reducible refine (pumicelaw06_within.calls t161 t159 t160 true _ A38.out).mono ?_); rintro e w' ⟨rfl, ⟨nd, rfl⟩⟩; refine ⟨_, rfl, ?_⟩) | (go_at_call 16; (with_reducible refine (node_InodeKey.calls a0 t163 _ A40.out).mono ?_); rintro e w49 ⟨rfl, hb⟩; have n0_ := Aside0.mk (below_step (by repeat (first | (with_reducible first | exact HB.out | apply below_alloc | apply pw_below_drewN | apply below_drew1) | exact HB.out)) hb); clear HB; have HB := n0_; clear n0_; (try clear hb); (try clear hb2); (try clear hk); (try clear hi)) | (go_at_call 15; (with_reducible refine (pumicelaw06_within.calls t163 t159 t160 false _ A41.out).mono ?_); rintro e w' ⟨rfl, ⟨nd, rfl⟩⟩) | (go_at_call 13; (with_reducible refine (node_BlockKey.calls a0 a4 t165 _ A45.out).mono ?_); rintro e w50 ⟨rfl, hb⟩; have n0_ := Aside0.mk (below_step (by repeat (first | (with_reducible first | exact HB.out | apply below_alloc | apply pw_below_drewN | apply below_drew1) | exact HB.out)) hb); clear HB; have HB := n0_; clear n0_; (try clear hb); (try clear hb2); (try clear hk); (try clear hi)) | (go_at_call 15; (with_reducible refine (pumicelaw06_within.calls t165 t159 t160 true _ A46.out).mono ?_); rintro e w' ⟨rfl, ⟨nd, rfl⟩⟩))
                      go_meet
                      case rel => exact ⟨_, (true), (by first | rfl | (simp; done) | (simp [*]; done) | (simp [wrap64]; done)), H', ⟨by have := HJ6.out; have := HJ17.out; first | omega | exact Nat.le_refl _⟩, ⟨by repeat (first | (with_reducible first | exact HB.out | apply below_alloc | apply pw_below_drewN | apply below_drew1) | exact HB.out)⟩⟩
                    · replace c47 := Bool.eq_false_iff.mpr c47
                      subst c47
                      have H1 : ((node_OrphanKey.f a0).bind fun t167 => ((pumicelaw06_within.f t167 t159 t160).bind fun t168 => (if t168 = true then (pumicelaw06_NodeOrder.j2 kj17 a0 a1 a2 a4 a5 true) else ((node_EntryKey.f a1 a2).bind fun t169 => ((pumicelaw06_within.f t169 t159 t160).bind fun t170 => (pumicelaw06_NodeOrder.j2 kj17 a0 a1 a2 a4 a5 ((a1 != a0) == t170))))))) = some r := by rw [if_neg (show ¬ (false = true) by decide)] at H; exact H
                      clear H
                      have H := H1
                      clear H1
                      replace H := Option.bind_eq_some_iff.mp H
                      obtain ⟨t167, A510, H⟩ := H
                      replace H : ((pumicelaw06_within.f t167 t159 t160).bind fun t168 => (if t168 = true then (pumicelaw06_NodeOrder.j2 kj17 a0 a1 a2 a4 a5 true) else ((node_EntryKey.f a1 a2).bind fun t169 => ((pumicelaw06_within.f t169 t159 t160).bind fun t170 => (pumicelaw06_NodeOrder.j2 kj17 a0 a1 a2 a4 a5 ((a1 != a0) == t170)))))) = some r := H
                      have A51 := Aside0.mk A510
                      clear A510
                      replace H := Option.bind_eq_some_iff.mp H
                      obtain ⟨t168, A520, H⟩ := H
                      replace H : (if t168 = true then (pumicelaw06_NodeOrder.j2 kj17 a0 a1 a2 a4 a5 true) else ((node_EntryKey.f a1 a2).bind fun t169 => ((pumicelaw06_within.f t169 t159 t160).bind fun t170 => (pumicelaw06_NodeOrder.j2 kj17 a0 a1 a2 a4 a5 ((a1 != a0) == t170))))) = some r := H
                      have A52 := Aside0.mk A520
                      clear A520
                      by_cases c53 : t168 = true
                      · subst c53
                        have H1 : (pumicelaw06_NodeOrder.j2 kj17 a0 a1 a2 a4 a5 true) = some r := by rw [if_pos rfl] at H; exact H
                        clear H
                        have H := H1
                        clear H1
                        have H' := Aside0.mk H
                        clear H
                        go_wp2_with (first | ((with_reducible refine gate_callee (f := 12) rfl ?_); refine goesL_ (some 77) rfl rfl Try.func12 (by kernel_rfl) rfl #[.int .i64 a0, .string a2] rfl (by (try simp only [List.map_toArray, List.map_cons, List.map_nil]); first | done | rfl | (simp only [List.length_drop, List.length_take]; rfl)) ?_; (with_reducible refine (node_EntryKey.calls a0 a2 t161 _ A37.out).mono ?_); rintro e w54 ⟨rfl, hb⟩; refine ⟨_, rfl, ?_⟩; have n0_ := Aside0.mk (below_step (by repeat (first | (with_reducible first | exact HB.out | apply below_alloc | apply pw_below_drewN | apply below_drew1) | exact HB.out)) hb); clear HB; have HB := n0_; clear n0_; (try clear hb); (try clear hb2); (try clear hk); (try clear hi)) | ((with_reducible refine gate_callee (f := 15) rfl ?_); refine goesL_ (some 80) rfl rfl Try.func15 (by kernel_rfl) rfl #[.string t161, .string t159, .string t160] rfl (by (try simp only [List.map_toArray, List.map_cons, List.map_nil]); first | done | rfl | (simp only [List.length_drop, List.length_take]; rfl)) ?_; (with_reducible refine (pumicelaw06_within.calls t161 t159 t160 true _ A38.out).mono ?_); rintro e w' ⟨rfl, ⟨nd, rfl⟩⟩; refine ⟨_, rfl, ?_⟩) | (go_at_call 16; (with_reducible refine (node_InodeKey.calls a0 t163 _ A40.out).mono ?_); rintro e w55 ⟨rfl, hb⟩; have n0_ := Aside0.mk (below_step (by repeat (first | (with_reducible first | exact HB.out | apply below_alloc | apply pw_below_drewN | apply below_drew1) | exact HB.out)) hb); clear HB; have HB := n0_; clear n0_; (try clear hb); (try clear hb2); (try clear hk); (try clear hi)) | (go_at_call 15; (with_reducible refine (pumicelaw06_within.calls t163 t159 t160 false _ A41.out).mono ?_); rintro e w' ⟨rfl, ⟨nd, rfl⟩⟩) | (go_at_call 13; (with_reducible refine (node_BlockKey.calls a0 a4 t165 _ A45.out).mono ?_); rintro e w56 ⟨rfl, hb⟩; have n0_ := Aside0.mk (below_step (by repeat (first | (with_reducible first | exact HB.out | apply below_alloc | apply pw_below_drewN | apply below_drew1) | exact HB.out)) hb); clear HB; have HB := n0_; clear n0_; (try clear hb); (try clear hb2); (try clear hk); (try clear hi)) | (go_at_call 15; (with_reducible refine (pumicelaw06_within.calls t165 t159 t160 false _ A46.out).mono ?_); rintro e w' ⟨rfl, ⟨nd, rfl⟩⟩) | (go_at_call 17; (with_reducible refine (node_OrphanKey.calls a0 t167 _ A51.out).mono ?_); rintro e w57 ⟨rfl, hb⟩; have n0_ := Aside0.mk (below_step (by repeat (first | (with_reducible first | exact HB.out | apply below_alloc | apply pw_below_drewN | apply below_drew1) | exact HB.out)) hb); clear HB; have HB := n0_; clear n0_; (try clear hb); (try clear hb2); (try clear hk); (try clear hi)) | (go_at_call 15; (with_reducible refine (pumicelaw06_within.calls t167 t159 t160 true _ A52.out).mono ?_); rintro e w' ⟨rfl, ⟨nd, rfl⟩⟩))
                        go_meet
                        case rel => exact ⟨_, (true), (by first | rfl | (simp; done) | (simp [*]; done) | (simp [wrap64]; done)), H', ⟨by have := HJ6.out; have := HJ17.out; first | omega | exact Nat.le_refl _⟩, ⟨by repeat (first | (with_reducible first | exact HB.out | apply below_alloc | apply pw_below_drewN | apply below_drew1) | exact HB.out)⟩⟩
                      · replace c53 := Bool.eq_false_iff.mpr c53
                        subst c53
                        have H1 : ((node_EntryKey.f a1 a2).bind fun t169 => ((pumicelaw06_within.f t169 t159 t160).bind fun t170 => (pumicelaw06_NodeOrder.j2 kj17 a0 a1 a2 a4 a5 ((a1 != a0) == t170)))) = some r := by rw [if_neg (show ¬ (false = true) by decide)] at H; exact H
                        clear H
                        have H := H1
                        clear H1
                        replace H := Option.bind_eq_some_iff.mp H
                        obtain ⟨t169, A580, H⟩ := H
                        replace H : ((pumicelaw06_within.f t169 t159 t160).bind fun t170 => (pumicelaw06_NodeOrder.j2 kj17 a0 a1 a2 a4 a5 ((a1 != a0) == t170))) = some r := H
                        have A58 := Aside0.mk A580
                        clear A580
                        replace H := Option.bind_eq_some_iff.mp H
                        obtain ⟨t170, A590, H⟩ := H
                        replace H : (pumicelaw06_NodeOrder.j2 kj17 a0 a1 a2 a4 a5 ((a1 != a0) == t170)) = some r := H
                        have A59 := Aside0.mk A590
                        clear A590
                        have H' := Aside0.mk H
                        clear H
                        go_wp2_with (first | ((with_reducible refine gate_callee (f := 12) rfl ?_); refine goesL_ (some 77) rfl rfl Try.func12 (by kernel_rfl) rfl #[.int .i64 a0, .string a2] rfl (by (try simp only [List.map_toArray, List.map_cons, List.map_nil]); first | done | rfl | (simp only [List.length_drop, List.length_take]; rfl)) ?_; (with_reducible refine (node_EntryKey.calls a0 a2 t161 _ A37.out).mono ?_); rintro e w60 ⟨rfl, hb⟩; refine ⟨_, rfl, ?_⟩; have n0_ := Aside0.mk (below_step (by repeat (first | (with_reducible first | exact HB.out | apply below_alloc | apply pw_below_drewN | apply below_drew1) | exact HB.out)) hb); clear HB; have HB := n0_; clear n0_; (try clear hb); (try clear hb2); (try clear hk); (try clear hi)) | ((with_reducible refine gate_callee (f := 15) rfl ?_); refine goesL_ (some 80) rfl rfl Try.func15 (by kernel_rfl) rfl #[.string t161, .string t159, .string t160] rfl (by (try simp only [List.map_toArray, List.map_cons, List.map_nil]); first | done | rfl | (simp only [List.length_drop, List.length_take]; rfl)) ?_; (with_reducible refine (pumicelaw06_within.calls t161 t159 t160 true _ A38.out).mono ?_); rintro e w' ⟨rfl, ⟨nd, rfl⟩⟩; refine ⟨_, rfl, ?_⟩) | (go_at_call 16; (with_reducible refine (node_InodeKey.calls a0 t163 _ A40.out).mono ?_); rintro e w61 ⟨rfl, hb⟩; have n0_ := Aside0.mk (below_step (by repeat (first | (with_reducible first | exact HB.out | apply below_alloc | apply pw_below_drewN | apply below_drew1) | exact HB.out)) hb); clear HB; have HB := n0_; clear n0_; (try clear hb); (try clear hb2); (try clear hk); (try clear hi)) | (go_at_call 15; (with_reducible refine (pumicelaw06_within.calls t163 t159 t160 false _ A41.out).mono ?_); rintro e w' ⟨rfl, ⟨nd, rfl⟩⟩) | (go_at_call 13; (with_reducible refine (node_BlockKey.calls a0 a4 t165 _ A45.out).mono ?_); rintro e w62 ⟨rfl, hb⟩; have n0_ := Aside0.mk (below_step (by repeat (first | (with_reducible first | exact HB.out | apply below_alloc | apply pw_below_drewN | apply below_drew1) | exact HB.out)) hb); clear HB; have HB := n0_; clear n0_; (try clear hb); (try clear hb2); (try clear hk); (try clear hi)) | (go_at_call 15; (with_reducible refine (pumicelaw06_within.calls t165 t159 t160 false _ A46.out).mono ?_); rintro e w' ⟨rfl, ⟨nd, rfl⟩⟩) | (go_at_call 17; (with_reducible refine (node_OrphanKey.calls a0 t167 _ A51.out).mono ?_); rintro e w63 ⟨rfl, hb⟩; have n0_ := Aside0.mk (below_step (by repeat (first | (with_reducible first | exact HB.out | apply below_alloc | apply pw_below_drewN | apply below_drew1) | exact HB.out)) hb); clear HB; have HB := n0_; clear n0_; (try clear hb); (try clear hb2); (try clear hk); (try clear hi)) | (go_at_call 15; (with_reducible refine (pumicelaw06_within.calls t167 t159 t160 false _ A52.out).mono ?_); rintro e w' ⟨rfl, ⟨nd, rfl⟩⟩) | (go_at_call 12; (with_reducible refine (node_EntryKey.calls a1 a2 t169 _ A58.out).mono ?_); rintro e w64 ⟨rfl, hb⟩; have n0_ := Aside0.mk (below_step (by repeat (first | (with_reducible first | exact HB.out | apply below_alloc | apply pw_below_drewN | apply below_drew1) | exact HB.out)) hb); clear HB; have HB := n0_; clear n0_; (try clear hb); (try clear hb2); (try clear hk); (try clear hi)) | (go_at_call 15; (with_reducible refine (pumicelaw06_within.calls t169 t159 t160 t170 _ A59.out).mono ?_); rintro e w' ⟨rfl, ⟨nd, rfl⟩⟩))
                        go_meet
                        case rel => exact ⟨_, (((a1 != a0) == t170)), (by first | rfl | (simp; done) | (simp [*]; done) | (simp [wrap64]; done)), H', ⟨by have := HJ6.out; have := HJ17.out; first | omega | exact Nat.le_refl _⟩, ⟨by repeat (first | (with_reducible first | exact HB.out | apply below_alloc | apply pw_below_drewN | apply below_drew1) | exact HB.out)⟩⟩
                · replace c39 := Bool.eq_false_iff.mpr c39
                  subst c39
                  have H1 : (pumicelaw06_NodeOrder.j2 kj17 a0 a1 a2 a4 a5 true) = some r := by rw [if_neg (show ¬ (false = true) by decide)] at H; exact H
                  clear H
                  have H := H1
                  clear H1
                  have H' := Aside0.mk H
                  clear H
                  go_wp2_with (first | ((with_reducible refine gate_callee (f := 12) rfl ?_); refine goesL_ (some 77) rfl rfl Try.func12 (by kernel_rfl) rfl #[.int .i64 a0, .string a2] rfl (by (try simp only [List.map_toArray, List.map_cons, List.map_nil]); first | done | rfl | (simp only [List.length_drop, List.length_take]; rfl)) ?_; (with_reducible refine (node_EntryKey.calls a0 a2 t161 _ A37.out).mono ?_); rintro e w65 ⟨rfl, hb⟩; refine ⟨_, rfl, ?_⟩; have n0_ := Aside0.mk (below_step (by repeat (first | (with_reducible first | exact HB.out | apply below_alloc | apply pw_below_drewN | apply below_drew1) | exact HB.out)) hb); clear HB; have HB := n0_; clear n0_; (try clear hb); (try clear hb2); (try clear hk); (try clear hi)) | ((with_reducible refine gate_callee (f := 15) rfl ?_); refine goesL_ (some 80) rfl rfl Try.func15 (by kernel_rfl) rfl #[.string t161, .string t159, .string t160] rfl (by (try simp only [List.map_toArray, List.map_cons, List.map_nil]); first | done | rfl | (simp only [List.length_drop, List.length_take]; rfl)) ?_; (with_reducible refine (pumicelaw06_within.calls t161 t159 t160 false _ A38.out).mono ?_); rintro e w' ⟨rfl, ⟨nd, rfl⟩⟩; refine ⟨_, rfl, ?_⟩))
                  go_meet
                  case rel => exact ⟨_, (true), (by first | rfl | (simp; done) | (simp [*]; done) | (simp [wrap64]; done)), H', ⟨by have := HJ6.out; have := HJ17.out; first | omega | exact Nat.le_refl _⟩, ⟨by repeat (first | (with_reducible first | exact HB.out | apply below_alloc | apply pw_below_drewN | apply below_drew1) | exact HB.out)⟩⟩
              case rest =>
                clear HC35
                try clear c1
                try clear c2
                try clear p2
                try clear c3
                try clear c4
                try clear c5
                try clear p6
                try clear c8
                try clear c8b0
                try clear c9
                try clear c9b0
                try clear c10
                try clear c10b0
                try clear c11
                try clear c11b0
                try clear c12
                try clear c12b0
                try clear c13
                try clear c13b0
                try clear c14
                try clear c14b0
                try clear c15
                try clear c23
                try clear c23b0
                try clear c23b1
                try clear c23b2
                try clear c33
                try clear c39
                try clear c42
                try clear c47
                try clear c53
                try clear p64
                try clear p2
                try clear p6
                obtain ⟨kq, x115_34, rfl, HA, HJ34, HB⟩ := hcut
                cases kq with
                | zero => exact absurd HA.out (by simp [pumicelaw06_NodeOrder.j2])
                | succ kj34 =>
                  have H := HA.out
                  clear HA
                  simp only [pumicelaw06_NodeOrder.j2] at H
                  by_cases c66 : x115_34 = true
                  · subst c66
                    have H1 : (none) = some r := by rw [if_pos rfl] at H; exact H
                    clear H
                    have H := H1
                    clear H1
                    exact absurd H (by simp)
                  · replace c66 := Bool.eq_false_iff.mpr c66
                    subst c66
                    have H1 : ((node_From.f a0 3).bind fun bt171 => ((node_BlockKey.f a0 a4).bind fun t173 => ((pumicelaw06_within.f t173 bt171.1 bt171.2).bind fun t174 => (if t174 = true then ((node_EntryKey.f a0 a2).bind fun t175 => ((pumicelaw06_within.f t175 bt171.1 bt171.2).bind fun t176 => (if t176 = true then (pumicelaw06_NodeOrder.j3 kj34 a0 a1 true) else ((node_BlockKey.f a1 a5).bind fun t177 => ((pumicelaw06_within.f t177 bt171.1 bt171.2).bind fun t178 => (pumicelaw06_NodeOrder.j3 kj34 a0 a1 ((a1 != a0) == t178))))))) else (pumicelaw06_NodeOrder.j3 kj34 a0 a1 true))))) = some r := by rw [if_neg (show ¬ (false = true) by decide)] at H; exact H
                    clear H
                    have H := H1
                    clear H1
                    replace H := Option.bind_eq_some_iff.mp H
                    obtain ⟨⟨t171, t172⟩, A670, H⟩ := H
                    replace H : ((node_BlockKey.f a0 a4).bind fun t173 => ((pumicelaw06_within.f t173 t171 t172).bind fun t174 => (if t174 = true then ((node_EntryKey.f a0 a2).bind fun t175 => ((pumicelaw06_within.f t175 t171 t172).bind fun t176 => (if t176 = true then (pumicelaw06_NodeOrder.j3 kj34 a0 a1 true) else ((node_BlockKey.f a1 a5).bind fun t177 => ((pumicelaw06_within.f t177 t171 t172).bind fun t178 => (pumicelaw06_NodeOrder.j3 kj34 a0 a1 ((a1 != a0) == t178))))))) else (pumicelaw06_NodeOrder.j3 kj34 a0 a1 true)))) = some r := H
                    have A67 := Aside0.mk A670
                    clear A670
                    have HC68 := Aside0.mk H
                    clear H
                    go_upto_region 9 with (first | ((with_reducible refine gate_callee (f := 14) rfl ?_); refine goesL_ (some 118) rfl rfl Try.func14 (by kernel_rfl) rfl #[.int .i64 a0, .int .i64 3] rfl (by (try simp only [List.map_toArray, List.map_cons, List.map_nil]); first | done | rfl | (simp only [List.length_drop, List.length_take]; rfl)) ?_; (with_reducible refine (node_From.calls a0 3 t171 t172 _ A67.out).mono ?_); rintro e w69 ⟨rfl, hb⟩; refine ⟨_, rfl, ?_⟩; have n0_ := Aside0.mk (below_step (by repeat (first | (with_reducible first | exact HB.out | apply below_alloc | apply pw_below_drewN | apply below_drew1) | exact HB.out)) hb); clear HB; have HB := n0_; clear n0_; (try clear hb); (try clear hb2); (try clear hk); (try clear hi)))
                    (try simp only [Act.put, List.setIfInBounds_toArray, List.set_cons_zero, List.set_cons_succ])
                    go_cut [147] (fun v147 wc => ∃ (kq : Nat) (x147_67 : Bool), v147 = .bool x147_67 ∧ Aside0 (pumicelaw06_NodeOrder.j3 kq a0 a1 x147_67 = some r) ∧ Aside0 (kq ≤ kj34) ∧ Aside0 (Below w.heap.size w wc))
                    case first =>
                      have H := HC68.out
                      clear HC68
                      replace H := Option.bind_eq_some_iff.mp H
                      obtain ⟨t173, A700, H⟩ := H
                      replace H : ((pumicelaw06_within.f t173 t171 t172).bind fun t174 => (if t174 = true then ((node_EntryKey.f a0 a2).bind fun t175 => ((pumicelaw06_within.f t175 t171 t172).bind fun t176 => (if t176 = true then (pumicelaw06_NodeOrder.j3 kj34 a0 a1 true) else ((node_BlockKey.f a1 a5).bind fun t177 => ((pumicelaw06_within.f t177 t171 t172).bind fun t178 => (pumicelaw06_NodeOrder.j3 kj34 a0 a1 ((a1 != a0) == t178))))))) else (pumicelaw06_NodeOrder.j3 kj34 a0 a1 true))) = some r := H
                      have A70 := Aside0.mk A700
                      clear A700
                      replace H := Option.bind_eq_some_iff.mp H
                      obtain ⟨t174, A710, H⟩ := H
                      replace H : (if t174 = true then ((node_EntryKey.f a0 a2).bind fun t175 => ((pumicelaw06_within.f t175 t171 t172).bind fun t176 => (if t176 = true then (pumicelaw06_NodeOrder.j3 kj34 a0 a1 true) else ((node_BlockKey.f a1 a5).bind fun t177 => ((pumicelaw06_within.f t177 t171 t172).bind fun t178 => (pumicelaw06_NodeOrder.j3 kj34 a0 a1 ((a1 != a0) == t178))))))) else (pumicelaw06_NodeOrder.j3 kj34 a0 a1 true)) = some r := H
                      have A71 := Aside0.mk A710
                      clear A710
                      by_cases c72 : t174 = true
                      · subst c72
                        have H1 : ((node_EntryKey.f a0 a2).bind fun t175 => ((pumicelaw06_within.f t175 t171 t172).bind fun t176 => (if t176 = true then (pumicelaw06_NodeOrder.j3 kj34 a0 a1 true) else ((node_BlockKey.f a1 a5).bind fun t177 => ((pumicelaw06_within.f t177 t171 t172).bind fun t178 => (pumicelaw06_NodeOrder.j3 kj34 a0 a1 ((a1 != a0) == t178))))))) = some r := by rw [if_pos rfl] at H; exact H
                        clear H
                        have H := H1
                        clear H1
                        replace H := Option.bind_eq_some_iff.mp H
                        obtain ⟨t175, A730, H⟩ := H
                        replace H : ((pumicelaw06_within.f t175 t171 t172).bind fun t176 => (if t176 = true then (pumicelaw06_NodeOrder.j3 kj34 a0 a1 true) else ((node_BlockKey.f a1 a5).bind fun t177 => ((pumicelaw06_within.f t177 t171 t172).bind fun t178 => (pumicelaw06_NodeOrder.j3 kj34 a0 a1 ((a1 != a0) == t178)))))) = some r := H
                        have A73 := Aside0.mk A730
                        clear A730
                        replace H := Option.bind_eq_some_iff.mp H
                        obtain ⟨t176, A740, H⟩ := H
                        replace H : (if t176 = true then (pumicelaw06_NodeOrder.j3 kj34 a0 a1 true) else ((node_BlockKey.f a1 a5).bind fun t177 => ((pumicelaw06_within.f t177 t171 t172).bind fun t178 => (pumicelaw06_NodeOrder.j3 kj34 a0 a1 ((a1 != a0) == t178))))) = some r := H
                        have A74 := Aside0.mk A740
                        clear A740
                        by_cases c75 : t176 = true
                        · subst c75
                          have H1 : (pumicelaw06_NodeOrder.j3 kj34 a0 a1 true) = some r := by rw [if_pos rfl] at H; exact H
                          clear H
                          have H := H1
                          clear H1
                          have H' := Aside0.mk H
                          clear H
                          go_wp2_with (first | ((with_reducible refine gate_callee (f := 13) rfl ?_); refine goesL_ (some 123) rfl rfl Try.func13 (by kernel_rfl) rfl #[.int .i64 a0, .int .i64 a4] rfl (by (try simp only [List.map_toArray, List.map_cons, List.map_nil]); first | done | rfl | (simp only [List.length_drop, List.length_take]; rfl)) ?_; (with_reducible refine (node_BlockKey.calls a0 a4 t173 _ A70.out).mono ?_); rintro e w76 ⟨rfl, hb⟩; refine ⟨_, rfl, ?_⟩; have n0_ := Aside0.mk (below_step (by repeat (first | (with_reducible first | exact HB.out | apply below_alloc | apply pw_below_drewN | apply below_drew1) | exact HB.out)) hb); clear HB; have HB := n0_; clear n0_; (try clear hb); (try clear hb2); (try clear hk); (try clear hi)) | ((with_reducible refine gate_callee (f := 15) rfl ?_); refine goesL_ (some 126) rfl rfl Try.func15 (by kernel_rfl) rfl #[.string t173, .string t171, .string t172] rfl (by (try simp only [List.map_toArray, List.map_cons, List.map_nil]); first | done | rfl | (simp only [List.length_drop, List.length_take]; rfl)) ?_; (with_reducible refine (pumicelaw06_within.calls t173 t171 t172 true _ A71.out).mono ?_); rintro e w' ⟨rfl, ⟨nd, rfl⟩⟩; refine ⟨_, rfl, ?_⟩) | (go_at_call 12; (with_reducible refine (node_EntryKey.calls a0 a2 t175 _ A73.out).mono ?_); rintro e w77 ⟨rfl, hb⟩; have n0_ := Aside0.mk (below_step (by repeat (first | (with_reducible first | exact HB.out | apply below_alloc | apply pw_below_drewN | apply below_drew1) | exact HB.out)) hb); clear HB; have HB := n0_; clear n0_; (try clear hb); (try clear hb2); (try clear hk); (try clear hi)) | (go_at_call 15; (with_reducible refine (pumicelaw06_within.calls t175 t171 t172 true _ A74.out).mono ?_); rintro e w' ⟨rfl, ⟨nd, rfl⟩⟩))
                          go_meet
                          case rel => exact ⟨_, (true), (by first | rfl | (simp; done) | (simp [*]; done) | (simp [wrap64]; done)), H', ⟨by have := HJ6.out; have := HJ17.out; have := HJ34.out; first | omega | exact Nat.le_refl _⟩, ⟨by repeat (first | (with_reducible first | exact HB.out | apply below_alloc | apply pw_below_drewN | apply below_drew1) | exact HB.out)⟩⟩
                        · replace c75 := Bool.eq_false_iff.mpr c75
                          subst c75
                          have H1 : ((node_BlockKey.f a1 a5).bind fun t177 => ((pumicelaw06_within.f t177 t171 t172).bind fun t178 => (pumicelaw06_NodeOrder.j3 kj34 a0 a1 ((a1 != a0) == t178)))) = some r := by rw [if_neg (show ¬ (false = true) by decide)] at H; exact H
                          clear H
                          have H := H1
                          clear H1
                          replace H := Option.bind_eq_some_iff.mp H
                          obtain ⟨t177, A780, H⟩ := H
                          replace H : ((pumicelaw06_within.f t177 t171 t172).bind fun t178 => (pumicelaw06_NodeOrder.j3 kj34 a0 a1 ((a1 != a0) == t178))) = some r := H
                          have A78 := Aside0.mk A780
                          clear A780
                          replace H := Option.bind_eq_some_iff.mp H
                          obtain ⟨t178, A790, H⟩ := H
                          replace H : (pumicelaw06_NodeOrder.j3 kj34 a0 a1 ((a1 != a0) == t178)) = some r := H
                          have A79 := Aside0.mk A790
                          clear A790
                          have H' := Aside0.mk H
                          clear H
                          go_wp2_with (first | ((with_reducible refine gate_callee (f := 13) rfl ?_); refine goesL_ (some 123) rfl rfl Try.func13 (by kernel_rfl) rfl #[.int .i64 a0, .int .i64 a4] rfl (by (try simp only [List.map_toArray, List.map_cons, List.map_nil]); first | done | rfl | (simp only [List.length_drop, List.length_take]; rfl)) ?_; (with_reducible refine (node_BlockKey.calls a0 a4 t173 _ A70.out).mono ?_); rintro e w80 ⟨rfl, hb⟩; refine ⟨_, rfl, ?_⟩; have n0_ := Aside0.mk (below_step (by repeat (first | (with_reducible first | exact HB.out | apply below_alloc | apply pw_below_drewN | apply below_drew1) | exact HB.out)) hb); clear HB; have HB := n0_; clear n0_; (try clear hb); (try clear hb2); (try clear hk); (try clear hi)) | ((with_reducible refine gate_callee (f := 15) rfl ?_); refine goesL_ (some 126) rfl rfl Try.func15 (by kernel_rfl) rfl #[.string t173, .string t171, .string t172] rfl (by (try simp only [List.map_toArray, List.map_cons, List.map_nil]); first | done | rfl | (simp only [List.length_drop, List.length_take]; rfl)) ?_; (with_reducible refine (pumicelaw06_within.calls t173 t171 t172 true _ A71.out).mono ?_); rintro e w' ⟨rfl, ⟨nd, rfl⟩⟩; refine ⟨_, rfl, ?_⟩) | (go_at_call 12; (with_reducible refine (node_EntryKey.calls a0 a2 t175 _ A73.out).mono ?_); rintro e w81 ⟨rfl, hb⟩; have n0_ := Aside0.mk (below_step (by repeat (first | (with_reducible first | exact HB.out | apply below_alloc | apply pw_below_drewN | apply below_drew1) | exact HB.out)) hb); clear HB; have HB := n0_; clear n0_; (try clear hb); (try clear hb2); (try clear hk); (try clear hi)) | (go_at_call 15; (with_reducible refine (pumicelaw06_within.calls t175 t171 t172 false _ A74.out).mono ?_); rintro e w' ⟨rfl, ⟨nd, rfl⟩⟩) | (go_at_call 13; (with_reducible refine (node_BlockKey.calls a1 a5 t177 _ A78.out).mono ?_); rintro e w82 ⟨rfl, hb⟩; have n0_ := Aside0.mk (below_step (by repeat (first | (with_reducible first | exact HB.out | apply below_alloc | apply pw_below_drewN | apply below_drew1) | exact HB.out)) hb); clear HB; have HB := n0_; clear n0_; (try clear hb); (try clear hb2); (try clear hk); (try clear hi)) | (go_at_call 15; (with_reducible refine (pumicelaw06_within.calls t177 t171 t172 t178 _ A79.out).mono ?_); rintro e w' ⟨rfl, ⟨nd, rfl⟩⟩))
                          go_meet
                          case rel => exact ⟨_, (((a1 != a0) == t178)), (by first | rfl | (simp; done) | (simp [*]; done) | (simp [wrap64]; done)), H', ⟨by have := HJ6.out; have := HJ17.out; have := HJ34.out; first | omega | exact Nat.le_refl _⟩, ⟨by repeat (first | (with_reducible first | exact HB.out | apply below_alloc | apply pw_below_drewN | apply below_drew1) | exact HB.out)⟩⟩
                      · replace c72 := Bool.eq_false_iff.mpr c72
                        subst c72
                        have H1 : (pumicelaw06_NodeOrder.j3 kj34 a0 a1 true) = some r := by rw [if_neg (show ¬ (false = true) by decide)] at H; exact H
                        clear H
                        have H := H1
                        clear H1
                        have H' := Aside0.mk H
                        clear H
                        go_wp2_with (first | ((with_reducible refine gate_callee (f := 13) rfl ?_); refine goesL_ (some 123) rfl rfl Try.func13 (by kernel_rfl) rfl #[.int .i64 a0, .int .i64 a4] rfl (by (try simp only [List.map_toArray, List.map_cons, List.map_nil]); first | done | rfl | (simp only [List.length_drop, List.length_take]; rfl)) ?_; (with_reducible refine (node_BlockKey.calls a0 a4 t173 _ A70.out).mono ?_); rintro e w83 ⟨rfl, hb⟩; refine ⟨_, rfl, ?_⟩; have n0_ := Aside0.mk (below_step (by repeat (first | (with_reducible first | exact HB.out | apply below_alloc | apply pw_below_drewN | apply below_drew1) | exact HB.out)) hb); clear HB; have HB := n0_; clear n0_; (try clear hb); (try clear hb2); (try clear hk); (try clear hi)) | ((with_reducible refine gate_callee (f := 15) rfl ?_); refine goesL_ (some 126) rfl rfl Try.func15 (by kernel_rfl) rfl #[.string t173, .string t171, .string t172] rfl (by (try simp only [List.map_toArray, List.map_cons, List.map_nil]); first | done | rfl | (simp only [List.length_drop, List.length_take]; rfl)) ?_; (with_reducible refine (pumicelaw06_within.calls t173 t171 t172 false _ A71.out).mono ?_); rintro e w' ⟨rfl, ⟨nd, rfl⟩⟩; refine ⟨_, rfl, ?_⟩))
                        go_meet
                        case rel => exact ⟨_, (true), (by first | rfl | (simp; done) | (simp [*]; done) | (simp [wrap64]; done)), H', ⟨by have := HJ6.out; have := HJ17.out; have := HJ34.out; first | omega | exact Nat.le_refl _⟩, ⟨by repeat (first | (with_reducible first | exact HB.out | apply below_alloc | apply pw_below_drewN | apply below_drew1) | exact HB.out)⟩⟩
                    case rest =>
                      clear HC68
                      try clear c1
                      try clear c2
                      try clear p2
                      try clear c3
                      try clear c4
                      try clear c5
                      try clear c6
                      try clear p6
                      try clear c7
                      try clear c8
                      try clear c8b0
                      try clear c9
                      try clear c9b0
                      try clear c10
                      try clear c10b0
                      try clear c11
                      try clear c11b0
                      try clear c12
                      try clear c12b0
                      try clear c13
                      try clear c13b0
                      try clear c14
                      try clear c14b0
                      try clear c15
                      try clear c23
                      try clear c23b0
                      try clear c23b1
                      try clear c23b2
                      try clear c33
                      try clear c39
                      try clear c42
                      try clear c47
                      try clear c53
                      try clear p64
                      try clear c66
                      try clear c72
                      try clear c75
                      try clear p2
                      try clear p6
                      try clear p64
                      obtain ⟨kq, x147_67, rfl, HA, HJ67, HB⟩ := hcut
                      cases kq with
                      | zero => exact absurd HA.out (by simp [pumicelaw06_NodeOrder.j3])
                      | succ kj67 =>
                        have H := HA.out
                        clear HA
                        simp only [pumicelaw06_NodeOrder.j3] at H
                        by_cases c84 : x147_67 = true
                        · subst c84
                          have H1 : (none) = some r := by rw [if_pos rfl] at H; exact H
                          clear H
                          have H := H1
                          clear H1
                          exact absurd H (by simp)
                        · replace c84 := Bool.eq_false_iff.mpr c84
                          subst c84
                          have H1 : ((node_InodeKey.f a0).bind fun t179 => ((node_InodeKey.f a1).bind fun t180 => ((names_Less.f t179 t180).bind fun t181 => (if ((decide (a0 < a1)) == t181) = true then ((pumicelaw06_alive.f).bind fun t182 => (some t182)) else (none))))) = some r := by rw [if_neg (show ¬ (false = true) by decide)] at H; exact H
                          clear H
                          have H := H1
                          clear H1
                          replace H := Option.bind_eq_some_iff.mp H
                          obtain ⟨t179, A850, H⟩ := H
                          replace H : ((node_InodeKey.f a1).bind fun t180 => ((names_Less.f t179 t180).bind fun t181 => (if ((decide (a0 < a1)) == t181) = true then ((pumicelaw06_alive.f).bind fun t182 => (some t182)) else (none)))) = some r := H
                          have A85 := Aside0.mk A850
                          clear A850
                          replace H := Option.bind_eq_some_iff.mp H
                          obtain ⟨t180, A860, H⟩ := H
                          replace H : ((names_Less.f t179 t180).bind fun t181 => (if ((decide (a0 < a1)) == t181) = true then ((pumicelaw06_alive.f).bind fun t182 => (some t182)) else (none))) = some r := H
                          have A86 := Aside0.mk A860
                          clear A860
                          replace H := Option.bind_eq_some_iff.mp H
                          obtain ⟨t181, A870, H⟩ := H
                          replace H : (if ((decide (a0 < a1)) == t181) = true then ((pumicelaw06_alive.f).bind fun t182 => (some t182)) else (none)) = some r := H
                          have A87 := Aside0.mk A870
                          clear A870
                          by_cases c88 : ((decide (a0 < a1)) == t181) = true
                          · rw [if_pos c88] at H
                            have c88b0 : ((decide (a0 < a1)) == t181) = true := c88
                            (try (have c88b1 : decide ((decide (a0 < a1)) = t181) = true := by simpa using c88))
                            (try (have c88b2 : ((decide (a0 < a1)) == t181) = true := by simpa using c88))
                            clear c88
                            replace H := Option.bind_eq_some_iff.mp H
                            obtain ⟨t182, A890, H⟩ := H
                            replace H : (some t182) = some r := H
                            have A89 := Aside0.mk A890
                            clear A890
                            obtain rfl := Option.some.inj H
                            go_wp2_with (first | ((with_reducible refine gate_callee (f := 16) rfl ?_); refine goesL_ (some 152) rfl rfl Try.func16 (by kernel_rfl) rfl #[.int .i64 a0] rfl (by (try simp only [List.map_toArray, List.map_cons, List.map_nil]); first | done | rfl | (simp only [List.length_drop, List.length_take]; rfl)) ?_; (with_reducible refine (node_InodeKey.calls a0 t179 _ A85.out).mono ?_); rintro e w90 ⟨rfl, hb⟩; refine ⟨_, rfl, ?_⟩; have n0_ := Aside0.mk (below_step (by repeat (first | (with_reducible first | exact HB.out | apply below_alloc | apply pw_below_drewN | apply below_drew1) | exact HB.out)) hb); clear HB; have HB := n0_; clear n0_; (try clear hb); (try clear hb2); (try clear hk); (try clear hi)) | ((with_reducible refine gate_callee (f := 16) rfl ?_); refine goesL_ (some 154) rfl rfl Try.func16 (by kernel_rfl) rfl #[.int .i64 a1] rfl (by (try simp only [List.map_toArray, List.map_cons, List.map_nil]); first | done | rfl | (simp only [List.length_drop, List.length_take]; rfl)) ?_; (with_reducible refine (node_InodeKey.calls a1 t180 _ A86.out).mono ?_); rintro e w91 ⟨rfl, hb⟩; refine ⟨_, rfl, ?_⟩; have n0_ := Aside0.mk (below_step (by repeat (first | (with_reducible first | exact HB.out | apply below_alloc | apply pw_below_drewN | apply below_drew1) | exact HB.out)) hb); clear HB; have HB := n0_; clear n0_; (try clear hb); (try clear hb2); (try clear hk); (try clear hi)) | ((with_reducible refine gate_callee (f := 11) rfl ?_); refine goesL_ (some 155) rfl rfl Try.func11 (by kernel_rfl) rfl #[.string t179, .string t180] rfl (by (try simp only [List.map_toArray, List.map_cons, List.map_nil]); first | done | rfl | (simp only [List.length_drop, List.length_take]; rfl)) ?_; (with_reducible refine (names_Less.calls t179 t180 t181 _ A87.out).mono ?_); rintro e w' ⟨rfl, ⟨nd, rfl⟩⟩; refine ⟨_, rfl, ?_⟩) | (go_at_call 10; (with_reducible refine (pumicelaw06_alive.calls  t182 _ A89.out).mono ?_); rintro e w92 ⟨rfl, hb⟩; have n0_ := Aside0.mk (below_step (by repeat (first | (with_reducible first | exact HB.out | apply below_alloc | apply pw_below_drewN | apply below_drew1) | exact HB.out)) hb); clear HB; have HB := n0_; clear n0_; (try clear hb); (try clear hb2); (try clear hk); (try clear hi)))
                            go_ret
                            exact ⟨by first | rfl | exact isEmpty_bne_ _ | (simp [errW_none, errW_some] <;> rfl) | (simp [*, errW_none, errW_some] <;> rfl), by repeat (first | (with_reducible first | exact HB.out | apply below_alloc | apply pw_below_drewN | apply below_drew1) | exact HB.out)⟩
                          · rw [if_neg c88] at H
                            exact absurd H (by simp)

/-! ### pumiceref06_Mark: function 21 -/
def pumiceref06_Mark.f (k : Nat) (a0 : Int) (a1 : Int) : Option (List Int × Int) := if a1 < 1 then (some (([] : List Int), 22)) else (if a1 > 16 then (some (([] : List Int), 22)) else ((some (([3] : List Int) : List Int)).bind fun y183 => ((pumiceref01_Put.f k a0 8).bind fun t186 => (if y183.length + t186.length < 140737488355328 then ((some (y183 ++ t186 : List Int)).bind fun y189 => (if y189.length < 140737488355328 then (some ((y189 ++ [(a1) % 256]), 0)) else (none))) else (none)))))
theorem pumiceref06_Mark.mono : ∀ a0 a1 k, LeO (pumiceref06_Mark.f k a0 a1) (pumiceref06_Mark.f (k + 1) a0 a1) := by
  intro a0 a1 k
  unfold pumiceref06_Mark.f
  repeat' first
      | (with_reducible exact pumiceref01_Put.mono _ _ _)
      | (with_reducible exact LeO.refl _)
      | (with_reducible exact LeO.none _)
      | (with_reducible refine LeO.ite ?_ ?_)
      | (with_reducible refine LeO.bind ?_ (fun _ => ?_))
      | exact pumiceref01_Put.mono _ _ _
      | exact LeO.none _
      | refine LeO.ite ?_ ?_
      | refine LeO.bind ?_ (fun _ => ?_)
set_option maxHeartbeats 8000000 in
set_option maxRecDepth 100000 in
theorem pumiceref06_Mark.calls (k : Nat) (a0 : Int) (a1 : Int) (r1 : List Int) (r2 : Int) (w : World) (h : pumiceref06_Mark.f k a0 a1 = some (r1, r2)) :
    Calls Try.prog 21 #[.int .u64 a0, .int .i64 a1] w fun e w' => ∃ v0_ : Value, e = .returned (.tuple #[v0_, .int .i64 r2]) ∧ Kd.R (Kd.int .u8) 5 w' w.heap.size (fun _ => True) v0_ r1 ∧ Below w.heap.size w w' := by
  have HB := Aside0.mk (Below.refl w.heap.size w)
  have H : (if a1 < 1 then (some (([] : List Int), 22)) else (if a1 > 16 then (some (([] : List Int), 22)) else ((some (([3] : List Int) : List Int)).bind fun y183 => ((pumiceref01_Put.f k a0 8).bind fun t186 => (if y183.length + t186.length < 140737488355328 then ((some (y183 ++ t186 : List Int)).bind fun y189 => (if y189.length < 140737488355328 then (some ((y189 ++ [(a1) % 256]), 0)) else (none))) else (none)))))) = some (r1, r2) := h
  clear h
  by_cases c3 : a1 < 1
  · rw [if_pos c3] at H
    have c3b0 : decide (a1 < 1) = true := decide_eq_true c3
    clear c3
    simp only [Option.some.injEq, Prod.mk.injEq] at H
    obtain ⟨rfl, rfl⟩ := H
    go_enter Try.func21, Try.ntmps21
    go_wp2
    go_ret2
    exact ⟨_, by first | rfl | (simp [errW_none, errW_some] <;> rfl) | (simp [*, errW_none, errW_some] <;> rfl), by first | exact Kd.R_nil _ _ _ _ _ | exact Kd.N_nil _ _ _ _ _ | exact Kd.V_nil _ _ _ _ _ | exact Kd.Q_nil _ _ _ _ _ | exact Kd.S_nil _ _ _ _ _, by repeat (first | (with_reducible first | exact HB.out | apply below_alloc | apply pw_below_drewN | apply below_drew1) | exact HB.out)⟩
  · rw [if_neg c3] at H
    have c3b0 : decide (a1 < 1) = false := decide_eq_false c3
    clear c3
    by_cases c4 : a1 > 16
    · rw [if_pos c4] at H
      have c4b0 : decide (16 < a1) = true := decide_eq_true c4
      clear c4
      simp only [Option.some.injEq, Prod.mk.injEq] at H
      obtain ⟨rfl, rfl⟩ := H
      go_enter Try.func21, Try.ntmps21
      go_wp2
      go_ret2
      exact ⟨_, by first | rfl | (simp [errW_none, errW_some] <;> rfl) | (simp [*, errW_none, errW_some] <;> rfl), by first | exact Kd.R_nil _ _ _ _ _ | exact Kd.N_nil _ _ _ _ _ | exact Kd.V_nil _ _ _ _ _ | exact Kd.Q_nil _ _ _ _ _ | exact Kd.S_nil _ _ _ _ _, by repeat (first | (with_reducible first | exact HB.out | apply below_alloc | apply pw_below_drewN | apply below_drew1) | exact HB.out)⟩
    · rw [if_neg c4] at H
      have c4b0 : decide (16 < a1) = false := decide_eq_false c4
      clear c4
      obtain ⟨y183, hy183⟩ : ∃ y_ : List Int, y_ = (([3] : List Int)) := ⟨_, rfl⟩
      replace H : ((pumiceref01_Put.f k a0 8).bind fun t186 => (if y183.length + t186.length < 140737488355328 then ((some (y183 ++ t186 : List Int)).bind fun y189 => (if y189.length < 140737488355328 then (some ((y189 ++ [(a1) % 256]), 0)) else (none))) else (none))) = some (r1, r2) := by first | (rw [hy183]; with_reducible exact H) | (have H2_ := (Option.bind_some _ _).symm.trans H; rw [hy183]; with_reducible exact H2_) | (have H2_ := (Option.bind_some _ _).symm.trans H; with_reducible exact H2_) | with_reducible exact H | (rw [hy183]; exact H) | exact H
      have Ny183 := Aside0.mk hy183
      clear hy183
      replace H := Option.bind_eq_some_iff.mp H
      obtain ⟨t186, A50, H⟩ := H
      replace H : (if y183.length + t186.length < 140737488355328 then ((some (y183 ++ t186 : List Int)).bind fun y189 => (if y189.length < 140737488355328 then (some ((y189 ++ [(a1) % 256]), 0)) else (none))) else (none)) = some (r1, r2) := H
      have A5 := Aside0.mk A50
      clear A50
      by_cases c6 : y183.length + t186.length < 140737488355328
      · rw [if_pos c6] at H
        have LMc6 := Aside0.mk c6
        clear c6
        obtain ⟨y189, hy189⟩ : ∃ y_ : List Int, y_ = (y183 ++ t186) := ⟨_, rfl⟩
        replace H : (if y189.length < 140737488355328 then (some ((y189 ++ [(a1) % 256]), 0)) else (none)) = some (r1, r2) := by first | (rw [hy189]; with_reducible exact H) | (have H2_ := (Option.bind_some _ _).symm.trans H; rw [hy189]; with_reducible exact H2_) | (have H2_ := (Option.bind_some _ _).symm.trans H; with_reducible exact H2_) | with_reducible exact H | (rw [hy189]; exact H) | exact H
        have Ny189 := Aside0.mk hy189
        clear hy189
        by_cases c7 : y189.length < 140737488355328
        · rw [if_pos c7] at H
          have LMc7 := Aside0.mk c7
          clear c7
          obtain ⟨y192, hy192⟩ : ∃ y_ : List Int, y_ = (y189 ++ [(a1) % 256]) := ⟨_, rfl⟩
          replace H : (some (y192, 0)) = some (r1, r2) := by first | (rw [hy192]; with_reducible exact H) | (have H2_ := (Option.bind_some _ _).symm.trans H; rw [hy192]; with_reducible exact H2_) | (have H2_ := (Option.bind_some _ _).symm.trans H; with_reducible exact H2_) | with_reducible exact H | (rw [hy192]; exact H) | exact H
          have Ny192 := Aside0.mk hy192
          clear hy192
          simp only [Option.some.injEq, Prod.mk.injEq] at H
          obtain ⟨rfl, rfl⟩ := H
          go_enter Try.func21, Try.ntmps21
          go_wp2_with (first | ((with_reducible refine gate_dst (N := 13) rfl ?_); refine Kd.R_lit (Kd.int .u8) _ 5 ?hg (N := 13) ?hd (xs := ([3] : List Int)) (inner := [.int .u8 3]) (ok := fun _ => True) (okp := fun _ => True) ?hr ?hp (fun _ hk => hk) trivial (Below.refl _ _) (Nat.le_refl _) (by simp) ?_; (case hd => rfl); (case hg => rfl); (case hr => first | (go_simp; done) | (go_simp; rfl)); (case hp => exact (Reps.one (show Kd.M (Kd.int .u8) _ _ _ 3 [.int .u8 3] from rfl) (Reps.none _ _))); intro v184 w8 ho9 hb hg_ hnew_; clear hg_ hnew_; (first | rw [← Ny183.out] at ho9 | (simp only [Int.reduceToNat] at ho9; rw [← Ny183.out] at ho9)); have n0_ := Aside0.mk (Kd.R_lower ho9 (below_size (by repeat (first | (with_reducible first | exact HB.out | apply below_alloc | apply pw_below_drewN | apply below_drew1) | exact HB.out)))); have n1_ := Aside0.mk (below_step (by repeat (first | (with_reducible first | exact HB.out | apply below_alloc | apply pw_below_drewN | apply below_drew1) | exact HB.out)) hb); clear HB; have HO185 := n0_; have HB := n1_; clear n0_ n1_; clear hb ho9) | ((with_reducible refine gate_callee (f := 49) rfl ?_); refine goesL_ (some 16) rfl rfl Try.func49 (by kernel_rfl) rfl #[.int .u64 a0, .int .i64 8] rfl (by (try simp only [List.map_toArray, List.map_cons, List.map_nil]); first | done | rfl | (simp only [List.length_drop, List.length_take]; rfl)) ?_; (with_reducible refine (pumiceref01_Put.calls k a0 8 t186 _ A5.out).mono ?_); rintro e w10 ⟨v187, rfl, ho0, hb⟩; refine ⟨_, rfl, ?_⟩; have n0_ := Aside0.mk (Kd.R_elder' (by (with_reducible repeat (first | apply Kd.R_alloc | apply Kd.R_drewN | apply Kd.R_drew)); exact HO185.out) (Kd.R_base ho0) hb); have n1_ := Aside0.mk (Kd.R_lower (Kd.R_new' ho0 (Kd.R_lt (by (with_reducible repeat (first | apply Kd.R_alloc | apply Kd.R_drewN | apply Kd.R_drew)); exact HO185.out))) (below_size (by repeat (first | (with_reducible first | exact HB.out | apply below_alloc | apply pw_below_drewN | apply below_drew1) | exact HB.out)))); have n2_ := Aside0.mk (below_step (by repeat (first | (with_reducible first | exact HB.out | apply below_alloc | apply pw_below_drewN | apply below_drew1) | exact HB.out)) hb); clear HO185; clear HB; have HO185 := n0_; have HO188 := n1_; have HB := n2_; clear n0_ n1_ n2_; (try clear hb); (try clear hb2); (try clear hk); (try clear hi); (try clear ho0); obtain ⟨Ao12, co12, eo12⟩ := Kd.R_slice HO188.out; subst eo12) | ((with_reducible refine gate_builtin (b := .append) (xs := #[.tmp 14, .tmp 16]) rfl ?_); at_builtin; refine Kd.R_append_rows (Kd.int .u8) (w0 := w) w.heap.size rfl (.tmp 14) (.tmp 16) 34 5 (.int .u8 0) 1 rfl Try.underlying34 info5 rfl (by decide) (by omega) v184 y183 t186 _ _ _ (fun k_ => some k_ ≠ (.slice Ao12 t186.length co12 : Value).ownBlock) (fun _ => False) rfl rfl ?aO ?aR (fun _ _ h => h) (fun _ h => h.elim) ?aF ?aB ?aS ?aL ?_; (case aR => repeat (first | exact (Kd.R_reads' HO188.out).2.2 | (with_reducible refine Kd.C_alloc ?_ _) | (with_reducible refine Kd.C_drewN ?_ _) | (with_reducible refine Kd.C_drew ?_))); (case aB => exact (by repeat (first | (with_reducible first | exact HB.out | apply below_alloc | apply pw_below_drewN | apply below_drew1) | exact HB.out))); (case aF => exact (fun k_ hk => Kd.fresh' (Kd.R_lt (by (with_reducible repeat (first | apply Kd.R_alloc | apply Kd.R_drewN | apply Kd.R_drew)); exact HO188.out)) k_ hk)); (case aO => exact (by (with_reducible repeat (first | apply Kd.R_alloc | apply Kd.R_drewN | apply Kd.R_drew)); exact Kd.R_mono HO185.out (fun _ hk => hk.2))); (case aS => exact (below_size (by repeat (first | (with_reducible first | exact HB.out | apply below_alloc | apply pw_below_drewN | apply below_drew1) | exact HB.out)))); (case aL => have := LMc6.out; omega); intro v190 w11 ho hb hg hat; rw [← Ny189.out] at ho; have n0_ := Aside0.mk (Kd.R_after (ok := (fun _ => True)) (by (with_reducible repeat (first | apply Kd.R_alloc | apply Kd.R_drewN | apply Kd.R_drew)); exact HO188.out) hg hat); have n1_ := Aside0.mk (hb); have n2_ := Aside0.mk (ho); clear HO188; clear HB; clear HO185; have HO188 := n0_; have HB := n1_; have HO191 := n2_; clear n0_ n1_ n2_; clear ho hb hg hat) | ((with_reducible refine gate_builtin (b := .append) (xs := #[.tmp 18, .tmp 21]) rfl ?_); at_builtin; refine Kd.R_append (Kd.int .u8) (w0 := w) w.heap.size rfl (.tmp 18) (.tmp 21) 34 5 (.int .u8 0) 1 rfl Try.underlying34 info5 rfl (by decide) (by omega) v190 y189 ((a1) % 256) [.int .u8 ((a1) % 256)] (fun k_ => some k_ ≠ (.slice Ao12 t186.length co12 : Value).ownBlock) (fun _ => False) rfl rfl ?aP (fun _ hk => hk.elim) ?aF ?aO ?aB ?aS ?aL ?_; (case aP => exact rfl); (case aB => exact (by repeat (first | (with_reducible first | exact HB.out | apply below_alloc | apply pw_below_drewN | apply below_drew1) | exact HB.out))); (case aF => exact (fun k_ hk => Kd.fresh' (Kd.R_lt (by (with_reducible repeat (first | apply Kd.R_alloc | apply Kd.R_drewN | apply Kd.R_drew)); exact HO188.out)) k_ hk)); (case aO => exact (by (with_reducible repeat (first | apply Kd.R_alloc | apply Kd.R_drewN | apply Kd.R_drew)); exact HO191.out)); (case aS => exact (below_size (by repeat (first | (with_reducible first | exact HB.out | apply below_alloc | apply pw_below_drewN | apply below_drew1) | exact HB.out)))); (case aL => have := LMc7.out; omega); intro v193 w13 ho hb hg hat; rw [← Ny192.out] at ho; have n0_ := Aside0.mk (Kd.R_after (ok := (fun _ => True)) (by (with_reducible repeat (first | apply Kd.R_alloc | apply Kd.R_drewN | apply Kd.R_drew)); exact HO188.out) hg hat); have n1_ := Aside0.mk (hb); have n2_ := Aside0.mk (ho); clear HO188; clear HB; clear HO191; have HO188 := n0_; have HB := n1_; have HO194 := n2_; clear n0_ n1_ n2_; clear ho hb hg hat))
          go_ret2
          exact ⟨_, by first | rfl | (simp [errW_none, errW_some] <;> rfl) | (simp [*, errW_none, errW_some] <;> rfl), by (with_reducible repeat (first | apply Kd.R_alloc | apply Kd.R_drewN | apply Kd.R_drew)); exact Kd.R_mono HO194.out (fun _ hk => trivial), by repeat (first | (with_reducible first | exact HB.out | apply below_alloc | apply pw_below_drewN | apply below_drew1) | exact HB.out)⟩
        · rw [if_neg c7] at H
          exact absurd H (by simp)
      · rw [if_neg c6] at H
        exact absurd H (by simp)

/-! ### node_Size: function 24 -/
def node_Size.f (a0_0 : ByteArray) (a0_1 : ByteArray) (a0_2 : Bool) : Option (Int) := (node_Pack.f a0_0 a0_1 a0_2).bind fun bt196 => (if bt196.2 = 0 then (some (wrap64 (6 + (bt196.1.length : Int)))) else (some 0))
set_option maxHeartbeats 8000000 in
set_option maxRecDepth 100000 in
theorem node_Size.calls (a0_0 : ByteArray) (a0_1 : ByteArray) (a0_2 : Bool) (r : Int) (w : World) (h : node_Size.f a0_0 a0_1 a0_2 = some r) :
    Calls Try.prog 24 #[.agg #[.string a0_0, .string a0_1, .bool a0_2]] w fun e w' => e = .returned (.int .i64 r) ∧ Below w.heap.size w w' := by
  have hu32 := Try.underlying32
  have HB := Aside0.mk (Below.refl w.heap.size w)
  have H : ((node_Pack.f a0_0 a0_1 a0_2).bind fun bt196 => (if bt196.2 = 0 then (some (wrap64 (6 + (bt196.1.length : Int)))) else (some 0))) = some r := h
  clear h
  replace H := Option.bind_eq_some_iff.mp H
  obtain ⟨⟨t196, t199⟩, A20, H⟩ := H
  replace H : (if t199 = 0 then (some (wrap64 (6 + (t196.length : Int)))) else (some 0)) = some r := H
  have A2 := Aside0.mk A20
  clear A20
  by_cases c3 : t199 = 0
  · rw [if_pos c3] at H
    have c3b0 : (t199 == 0) = true := beq_iff_eq.mpr c3
    have c3b1 : (t199 != 0) = false := bne_eq_false_iff_eq.mpr c3
    clear c3
    obtain rfl := Option.some.inj H
    go_enter Try.func24, Try.ntmps24
    go_wp2_with (first | ((with_reducible refine gate_dst (N := 1) rfl ?_); refine box_event ?hg (N := 1) ?hd (cs := #[.string a0_0, .string a0_1, .bool a0_2]) (t := 32) ?hr ?_; (case hd => rfl); (case hg => rfl); (case hr => first | (go_simp; done) | (go_simp; rfl)); intro gb195 hg w4 hbox hb; have n0_ := Aside0.mk (below_step (by repeat (first | (with_reducible first | exact HB.out | apply below_alloc | apply pw_below_drewN | apply below_drew1) | exact HB.out)) hb); have n1_ := Aside0.mk (hbox); have n2_ := Aside0.mk ((by rw [hg]; exact (below_size (by repeat (first | (with_reducible first | exact HB.out | apply below_alloc | apply pw_below_drewN | apply below_drew1) | exact HB.out))) : w.heap.size ≤ gb195)); have n3_ := Aside0.mk ((by rw [hg]; exact (below_size (by repeat (first | (with_reducible first | exact HB.out | apply below_alloc | apply pw_below_drewN | apply below_drew1) | exact HB.out))) : w.heap.size ≤ gb195)); clear HB; have HB := n0_; have BK195 := n1_; have GW195 := n2_; have GE195 := n3_; clear n0_ n1_ n2_ n3_; clear hb hbox hg; have hcz5_0 : w4.cell? ⟨gb195, 0, none⟩ = some (.string a0_0) := (blk_cell BK195.out 0).trans rfl; have hcz5_1 : w4.cell? ⟨gb195, 1, none⟩ = some (.string a0_1) := (blk_cell BK195.out 1).trans rfl; have hcz5_2 : w4.cell? ⟨gb195, 2, none⟩ = some (.bool a0_2) := (blk_cell BK195.out 2).trans rfl; have hfz5_0 := blk_frozen BK195.out 0; have hfz5_1 := blk_frozen BK195.out 1; have hfz5_2 := blk_frozen BK195.out 2) | ((with_reducible refine gate_callee (f := 18) rfl ?_); refine goesL_ (some 7) rfl rfl Try.func18 (by kernel_rfl) rfl #[.agg #[.string a0_0, .string a0_1, .bool a0_2]] rfl (by (try simp only [List.map_toArray, List.map_cons, List.map_nil]); first | done | rfl | (simp only [List.length_drop, List.length_take]; rfl)) ?_; (with_reducible refine (node_Pack.calls a0_0 a0_1 a0_2 t196 t199 _ A2.out).mono ?_); rintro e w6 ⟨v197, rfl, ho0, hb⟩; refine ⟨_, rfl, ?_⟩; have n0_ := Aside0.mk (Kd.R_lower ho0 (below_size (by repeat (first | (with_reducible first | exact HB.out | apply below_alloc | apply pw_below_drewN | apply below_drew1 | refine below_set ?_ GE195.out) | exact HB.out)))); have n1_ := Aside0.mk (blk_below (g := gb195) (o := .cells #[.string a0_0, .string a0_1, .bool a0_2] 32 (0, 0)) (by (with_reducible repeat (first | refine blk_drewN ?_ _ | refine blk_drew ?_ | refine blk_alloc ?_ _)); exact BK195.out) hb); have n2_ := Aside0.mk (below_step (by repeat (first | (with_reducible first | exact HB.out | apply below_alloc | apply pw_below_drewN | apply below_drew1 | refine below_set ?_ GE195.out) | exact HB.out)) hb); clear BK195; clear HB; have HO198 := n0_; have BK195 := n1_; have HB := n2_; clear n0_ n1_ n2_; (try clear hb); (try clear hb2); (try clear hk); (try clear hi); (try clear ho0); obtain ⟨Ao7, co7, eo7⟩ := Kd.R_slice HO198.out; subst eo7))
    go_ret
    exact ⟨by first | rfl | exact isEmpty_bne_ _ | (simp [errW_none, errW_some] <;> rfl) | (simp [*, errW_none, errW_some] <;> rfl), by repeat (first | (with_reducible first | exact HB.out | apply below_alloc | apply pw_below_drewN | apply below_drew1 | refine below_set ?_ GE195.out) | exact HB.out)⟩
  · rw [if_neg c3] at H
    have c3b0 : (t199 == 0) = false := beq_eq_false_iff_ne.mpr c3
    have c3b1 : (t199 != 0) = true := bne_iff_ne.mpr c3
    obtain rfl := Option.some.inj H
    go_enter Try.func24, Try.ntmps24
    go_wp2_with (first | ((with_reducible refine gate_dst (N := 1) rfl ?_); refine box_event ?hg (N := 1) ?hd (cs := #[.string a0_0, .string a0_1, .bool a0_2]) (t := 32) ?hr ?_; (case hd => rfl); (case hg => rfl); (case hr => first | (go_simp; done) | (go_simp; rfl)); intro gb195 hg w8 hbox hb; have n0_ := Aside0.mk (below_step (by repeat (first | (with_reducible first | exact HB.out | apply below_alloc | apply pw_below_drewN | apply below_drew1) | exact HB.out)) hb); have n1_ := Aside0.mk (hbox); have n2_ := Aside0.mk ((by rw [hg]; exact (below_size (by repeat (first | (with_reducible first | exact HB.out | apply below_alloc | apply pw_below_drewN | apply below_drew1) | exact HB.out))) : w.heap.size ≤ gb195)); have n3_ := Aside0.mk ((by rw [hg]; exact (below_size (by repeat (first | (with_reducible first | exact HB.out | apply below_alloc | apply pw_below_drewN | apply below_drew1) | exact HB.out))) : w.heap.size ≤ gb195)); clear HB; have HB := n0_; have BK195 := n1_; have GW195 := n2_; have GE195 := n3_; clear n0_ n1_ n2_ n3_; clear hb hbox hg; have hcz9_0 : w8.cell? ⟨gb195, 0, none⟩ = some (.string a0_0) := (blk_cell BK195.out 0).trans rfl; have hcz9_1 : w8.cell? ⟨gb195, 1, none⟩ = some (.string a0_1) := (blk_cell BK195.out 1).trans rfl; have hcz9_2 : w8.cell? ⟨gb195, 2, none⟩ = some (.bool a0_2) := (blk_cell BK195.out 2).trans rfl; have hfz9_0 := blk_frozen BK195.out 0; have hfz9_1 := blk_frozen BK195.out 1; have hfz9_2 := blk_frozen BK195.out 2) | ((with_reducible refine gate_callee (f := 18) rfl ?_); refine goesL_ (some 7) rfl rfl Try.func18 (by kernel_rfl) rfl #[.agg #[.string a0_0, .string a0_1, .bool a0_2]] rfl (by (try simp only [List.map_toArray, List.map_cons, List.map_nil]); first | done | rfl | (simp only [List.length_drop, List.length_take]; rfl)) ?_; (with_reducible refine (node_Pack.calls a0_0 a0_1 a0_2 t196 t199 _ A2.out).mono ?_); rintro e w10 ⟨v197, rfl, ho0, hb⟩; refine ⟨_, rfl, ?_⟩; have n0_ := Aside0.mk (Kd.R_lower ho0 (below_size (by repeat (first | (with_reducible first | exact HB.out | apply below_alloc | apply pw_below_drewN | apply below_drew1 | refine below_set ?_ GE195.out) | exact HB.out)))); have n1_ := Aside0.mk (blk_below (g := gb195) (o := .cells #[.string a0_0, .string a0_1, .bool a0_2] 32 (0, 0)) (by (with_reducible repeat (first | refine blk_drewN ?_ _ | refine blk_drew ?_ | refine blk_alloc ?_ _)); exact BK195.out) hb); have n2_ := Aside0.mk (below_step (by repeat (first | (with_reducible first | exact HB.out | apply below_alloc | apply pw_below_drewN | apply below_drew1 | refine below_set ?_ GE195.out) | exact HB.out)) hb); clear BK195; clear HB; have HO198 := n0_; have BK195 := n1_; have HB := n2_; clear n0_ n1_ n2_; (try clear hb); (try clear hb2); (try clear hk); (try clear hi); (try clear ho0)))
    go_ret
    exact ⟨by first | rfl | exact isEmpty_bne_ _ | (simp [errW_none, errW_some] <;> rfl) | (simp [*, errW_none, errW_some] <;> rfl), by repeat (first | (with_reducible first | exact HB.out | apply below_alloc | apply pw_below_drewN | apply below_drew1 | refine below_set ?_ GE195.out) | exact HB.out)⟩

end Go.Proofs.Ytakchpeohmkpkaa.Q
