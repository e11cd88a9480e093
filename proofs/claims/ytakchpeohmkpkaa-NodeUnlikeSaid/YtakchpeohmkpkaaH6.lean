/- node.right. -/
import Derived.Test.YtakchpeohmkpkaaQ5
namespace Go.Proofs.Ytakchpeohmkpkaa.Q
open Go.RowKit Go.Proofs.YtakchpeohmkpkaaW.PrintWords Go.Proofs.YtakchpeohmkpkaaW.PrintLast Go.Proofs.YtakchpeohmkpkaaW.PrintMore
set_option linter.unusedVariables false
set_option linter.unusedSimpArgs false

theorem in_calls (n m : Int) (r : Bool) (w : World) (h : (decide (0 ≤ n) && decide (n ≤ m)) = r) : Calls Try.prog 71 #[.int .i64 n, .int .i64 m] w fun e w' => e = .returned (.bool r) ∧ Drawn0 w w' := by
  subst h
  by_cases h0 : 0 ≤ n
  · by_cases h1 : n ≤ m
    · go_enter Try.func71, Try.ntmps71
      go_wp2
      go_ret
      exact ⟨by simp [h0, h1], by repeat (first | exact Drawn0.refl _ | apply Drawn0.step)⟩
    · go_enter Try.func71, Try.ntmps71
      go_wp2
      go_ret
      exact ⟨by simp [h0, h1], by repeat (first | exact Drawn0.refl _ | apply Drawn0.step)⟩
  · go_enter Try.func71, Try.ntmps71
    go_wp2
    go_ret
    exact ⟨by rw [show decide (0 ≤ n) = false from decide_eq_false (by omega)]; rfl, by repeat (first | exact Drawn0.refl _ | apply Drawn0.step)⟩
theorem goodIno_f (a : Int) (r : Bool) (h : (decide (1 ≤ a) && decide (a ≤ 4096)) = r) : node_goodIno.f a = some r := by
  subst h
  unfold node_goodIno.f
  by_cases h0 : a ≥ 1
  · rw [if_pos h0]; simp; omega
  · rw [if_neg h0]; simp; omega
theorem goodKind_f (a : Int) (r : Bool) (h : (decide (1 ≤ a) && decide (a ≤ 3)) = r) : node_goodKind.f a = some r := by
  subst h
  unfold node_goodKind.f
  by_cases h0 : a ≥ 1
  · rw [if_pos h0]; simp; omega
  · rw [if_neg h0]; simp; omega

def rightInode (a0 a1 a2 a3 a4 a5 a6 : Int) : Bool := (decide (1 ≤ a0) && decide (a0 ≤ 4096)) && (decide (1 ≤ a1) && decide (a1 ≤ 3)) && (decide (0 ≤ a2) && decide (a2 ≤ 511)) && (decide (0 ≤ a3) && decide (a3 ≤ 65535)) && (decide (0 ≤ a4) && decide (a4 ≤ 65535)) && (decide (0 ≤ a5) && decide (a5 ≤ 100)) && (decide (0 ≤ a6) && decide (a6 ≤ 16384))
def node_right.f (a0 a1 a2 a3 a4 a5 a6 : Int) : Option Bool := some (rightInode a0 a1 a2 a3 a4 a5 a6)
set_option maxHeartbeats 8000000 in
set_option maxRecDepth 100000 in
theorem right_0 (a0 a1 a2 a3 a4 a5 a6 : Int) (w : World) (h0 : (decide (1 ≤ a0) && decide (a0 ≤ 4096)) = false) : Calls Try.prog 59 #[.agg #[.int .i64 a0, .int .i64 a1, .int .i64 a2, .int .i64 a3, .int .i64 a4, .int .i64 a5, .int .i64 a6]] w fun e w' => e = .returned (.bool false) ∧ Below w.heap.size w w' := by
  have hu52 := Try.underlying52
  have G0 := Aside0.mk (goodIno_f a0 _ h0)
  clear h0
  go_enter Try.func59, Try.ntmps59
  go_wp2_with (first
    | (go_at_call 56; (with_reducible refine (node_goodIno.calls a0 false _ G0.out).mono ?_); rintro e w' ⟨rfl, ⟨nd0, rfl⟩⟩))
  go_ret
  refine ⟨?_, by repeat (first | exact (below_alloc (Below.refl _ _) _) | apply pw_below_drewN | apply below_drew1)⟩
  first | rfl | simp [*]
set_option maxHeartbeats 8000000 in
set_option maxRecDepth 100000 in
theorem right_1 (a0 a1 a2 a3 a4 a5 a6 : Int) (w : World) (h0 : (decide (1 ≤ a0) && decide (a0 ≤ 4096)) = true) (h1 : (decide (1 ≤ a1) && decide (a1 ≤ 3)) = false) : Calls Try.prog 59 #[.agg #[.int .i64 a0, .int .i64 a1, .int .i64 a2, .int .i64 a3, .int .i64 a4, .int .i64 a5, .int .i64 a6]] w fun e w' => e = .returned (.bool false) ∧ Below w.heap.size w w' := by
  have hu52 := Try.underlying52
  have G0 := Aside0.mk (goodIno_f a0 _ h0)
  have G1 := Aside0.mk (goodKind_f a1 _ h1)
  clear h0 h1
  go_enter Try.func59, Try.ntmps59
  go_wp2_with (first
    | (go_at_call 56; (with_reducible refine (node_goodIno.calls a0 true _ G0.out).mono ?_); rintro e w' ⟨rfl, ⟨nd0, rfl⟩⟩)
    | (go_at_call 64; (with_reducible refine (node_goodKind.calls a1 false _ G1.out).mono ?_); rintro e w' ⟨rfl, ⟨nd1, rfl⟩⟩))
  go_ret
  refine ⟨?_, by repeat (first | exact (below_alloc (Below.refl _ _) _) | apply pw_below_drewN | apply below_drew1)⟩
  first | rfl | simp [*]
set_option maxHeartbeats 8000000 in
set_option maxRecDepth 100000 in
theorem right_2 (a0 a1 a2 a3 a4 a5 a6 : Int) (w : World) (h0 : (decide (1 ≤ a0) && decide (a0 ≤ 4096)) = true) (h1 : (decide (1 ≤ a1) && decide (a1 ≤ 3)) = true) (h2 : (decide (0 ≤ a2) && decide (a2 ≤ 511)) = false) : Calls Try.prog 59 #[.agg #[.int .i64 a0, .int .i64 a1, .int .i64 a2, .int .i64 a3, .int .i64 a4, .int .i64 a5, .int .i64 a6]] w fun e w' => e = .returned (.bool false) ∧ Below w.heap.size w w' := by
  have hu52 := Try.underlying52
  have G0 := Aside0.mk (goodIno_f a0 _ h0)
  have G1 := Aside0.mk (goodKind_f a1 _ h1)
  have G2 := Aside0.mk h2
  clear h0 h1 h2
  go_enter Try.func59, Try.ntmps59
  go_wp2_with (first
    | (go_at_call 56; (with_reducible refine (node_goodIno.calls a0 true _ G0.out).mono ?_); rintro e w' ⟨rfl, ⟨nd0, rfl⟩⟩)
    | (go_at_call 64; (with_reducible refine (node_goodKind.calls a1 true _ G1.out).mono ?_); rintro e w' ⟨rfl, ⟨nd1, rfl⟩⟩)
    | (go_at_call 71; (with_reducible refine (in_calls a2 511 false _ G2.out).mono ?_); rintro e w' ⟨rfl, ⟨nd2, rfl⟩⟩))
  go_ret
  refine ⟨?_, by repeat (first | exact (below_alloc (Below.refl _ _) _) | apply pw_below_drewN | apply below_drew1)⟩
  first | rfl | simp [*]
set_option maxHeartbeats 8000000 in
set_option maxRecDepth 100000 in
theorem right_3 (a0 a1 a2 a3 a4 a5 a6 : Int) (w : World) (h0 : (decide (1 ≤ a0) && decide (a0 ≤ 4096)) = true) (h1 : (decide (1 ≤ a1) && decide (a1 ≤ 3)) = true) (h2 : (decide (0 ≤ a2) && decide (a2 ≤ 511)) = true) (h3 : (decide (0 ≤ a3) && decide (a3 ≤ 65535)) = false) : Calls Try.prog 59 #[.agg #[.int .i64 a0, .int .i64 a1, .int .i64 a2, .int .i64 a3, .int .i64 a4, .int .i64 a5, .int .i64 a6]] w fun e w' => e = .returned (.bool false) ∧ Below w.heap.size w w' := by
  have hu52 := Try.underlying52
  have G0 := Aside0.mk (goodIno_f a0 _ h0)
  have G1 := Aside0.mk (goodKind_f a1 _ h1)
  have G2 := Aside0.mk h2
  have G3 := Aside0.mk h3
  clear h0 h1 h2 h3
  go_enter Try.func59, Try.ntmps59
  go_wp2_with (first
    | (go_at_call 56; (with_reducible refine (node_goodIno.calls a0 true _ G0.out).mono ?_); rintro e w' ⟨rfl, ⟨nd0, rfl⟩⟩)
    | (go_at_call 64; (with_reducible refine (node_goodKind.calls a1 true _ G1.out).mono ?_); rintro e w' ⟨rfl, ⟨nd1, rfl⟩⟩)
    | (go_at_call 71; (with_reducible refine (in_calls a2 511 true _ G2.out).mono ?_); rintro e w' ⟨rfl, ⟨nd2, rfl⟩⟩)
    | (go_at_call 71; (with_reducible refine (in_calls a3 65535 false _ G3.out).mono ?_); rintro e w' ⟨rfl, ⟨nd3, rfl⟩⟩))
  go_ret
  refine ⟨?_, by repeat (first | exact (below_alloc (Below.refl _ _) _) | apply pw_below_drewN | apply below_drew1)⟩
  first | rfl | simp [*]
set_option maxHeartbeats 8000000 in
set_option maxRecDepth 100000 in
theorem right_4 (a0 a1 a2 a3 a4 a5 a6 : Int) (w : World) (h0 : (decide (1 ≤ a0) && decide (a0 ≤ 4096)) = true) (h1 : (decide (1 ≤ a1) && decide (a1 ≤ 3)) = true) (h2 : (decide (0 ≤ a2) && decide (a2 ≤ 511)) = true) (h3 : (decide (0 ≤ a3) && decide (a3 ≤ 65535)) = true) (h4 : (decide (0 ≤ a4) && decide (a4 ≤ 65535)) = false) : Calls Try.prog 59 #[.agg #[.int .i64 a0, .int .i64 a1, .int .i64 a2, .int .i64 a3, .int .i64 a4, .int .i64 a5, .int .i64 a6]] w fun e w' => e = .returned (.bool false) ∧ Below w.heap.size w w' := by
  have hu52 := Try.underlying52
  have G0 := Aside0.mk (goodIno_f a0 _ h0)
  have G1 := Aside0.mk (goodKind_f a1 _ h1)
  have G2 := Aside0.mk h2
  have G3 := Aside0.mk h3
  have G4 := Aside0.mk h4
  clear h0 h1 h2 h3 h4
  go_enter Try.func59, Try.ntmps59
  go_wp2_with (first
    | (go_at_call 56; (with_reducible refine (node_goodIno.calls a0 true _ G0.out).mono ?_); rintro e w' ⟨rfl, ⟨nd0, rfl⟩⟩)
    | (go_at_call 64; (with_reducible refine (node_goodKind.calls a1 true _ G1.out).mono ?_); rintro e w' ⟨rfl, ⟨nd1, rfl⟩⟩)
    | (go_at_call 71; (with_reducible refine (in_calls a2 511 true _ G2.out).mono ?_); rintro e w' ⟨rfl, ⟨nd2, rfl⟩⟩)
    | (go_at_call 71; (with_reducible refine (in_calls a3 65535 true _ G3.out).mono ?_); rintro e w' ⟨rfl, ⟨nd3, rfl⟩⟩)
    | (go_at_call 71; (with_reducible refine (in_calls a4 65535 false _ G4.out).mono ?_); rintro e w' ⟨rfl, ⟨nd4, rfl⟩⟩))
  go_ret
  refine ⟨?_, by repeat (first | exact (below_alloc (Below.refl _ _) _) | apply pw_below_drewN | apply below_drew1)⟩
  first | rfl | simp [*]
set_option maxHeartbeats 8000000 in
set_option maxRecDepth 100000 in
theorem right_5 (a0 a1 a2 a3 a4 a5 a6 : Int) (w : World) (h0 : (decide (1 ≤ a0) && decide (a0 ≤ 4096)) = true) (h1 : (decide (1 ≤ a1) && decide (a1 ≤ 3)) = true) (h2 : (decide (0 ≤ a2) && decide (a2 ≤ 511)) = true) (h3 : (decide (0 ≤ a3) && decide (a3 ≤ 65535)) = true) (h4 : (decide (0 ≤ a4) && decide (a4 ≤ 65535)) = true) (h5 : (decide (0 ≤ a5) && decide (a5 ≤ 100)) = false) : Calls Try.prog 59 #[.agg #[.int .i64 a0, .int .i64 a1, .int .i64 a2, .int .i64 a3, .int .i64 a4, .int .i64 a5, .int .i64 a6]] w fun e w' => e = .returned (.bool false) ∧ Below w.heap.size w w' := by
  have hu52 := Try.underlying52
  have G0 := Aside0.mk (goodIno_f a0 _ h0)
  have G1 := Aside0.mk (goodKind_f a1 _ h1)
  have G2 := Aside0.mk h2
  have G3 := Aside0.mk h3
  have G4 := Aside0.mk h4
  have G5 := Aside0.mk h5
  clear h0 h1 h2 h3 h4 h5
  go_enter Try.func59, Try.ntmps59
  go_wp2_with (first
    | (go_at_call 56; (with_reducible refine (node_goodIno.calls a0 true _ G0.out).mono ?_); rintro e w' ⟨rfl, ⟨nd0, rfl⟩⟩)
    | (go_at_call 64; (with_reducible refine (node_goodKind.calls a1 true _ G1.out).mono ?_); rintro e w' ⟨rfl, ⟨nd1, rfl⟩⟩)
    | (go_at_call 71; (with_reducible refine (in_calls a2 511 true _ G2.out).mono ?_); rintro e w' ⟨rfl, ⟨nd2, rfl⟩⟩)
    | (go_at_call 71; (with_reducible refine (in_calls a3 65535 true _ G3.out).mono ?_); rintro e w' ⟨rfl, ⟨nd3, rfl⟩⟩)
    | (go_at_call 71; (with_reducible refine (in_calls a4 65535 true _ G4.out).mono ?_); rintro e w' ⟨rfl, ⟨nd4, rfl⟩⟩)
    | (go_at_call 71; (with_reducible refine (in_calls a5 100 false _ G5.out).mono ?_); rintro e w' ⟨rfl, ⟨nd5, rfl⟩⟩))
  go_ret
  refine ⟨?_, by repeat (first | exact (below_alloc (Below.refl _ _) _) | apply pw_below_drewN | apply below_drew1)⟩
  first | rfl | simp [*]
set_option maxHeartbeats 8000000 in
set_option maxRecDepth 100000 in
theorem right_6 (a0 a1 a2 a3 a4 a5 a6 : Int) (w : World) (h0 : (decide (1 ≤ a0) && decide (a0 ≤ 4096)) = true) (h1 : (decide (1 ≤ a1) && decide (a1 ≤ 3)) = true) (h2 : (decide (0 ≤ a2) && decide (a2 ≤ 511)) = true) (h3 : (decide (0 ≤ a3) && decide (a3 ≤ 65535)) = true) (h4 : (decide (0 ≤ a4) && decide (a4 ≤ 65535)) = true) (h5 : (decide (0 ≤ a5) && decide (a5 ≤ 100)) = true) (h6 : (decide (0 ≤ a6) && decide (a6 ≤ 16384)) = false) : Calls Try.prog 59 #[.agg #[.int .i64 a0, .int .i64 a1, .int .i64 a2, .int .i64 a3, .int .i64 a4, .int .i64 a5, .int .i64 a6]] w fun e w' => e = .returned (.bool false) ∧ Below w.heap.size w w' := by
  have hu52 := Try.underlying52
  have G0 := Aside0.mk (goodIno_f a0 _ h0)
  have G1 := Aside0.mk (goodKind_f a1 _ h1)
  have G2 := Aside0.mk h2
  have G3 := Aside0.mk h3
  have G4 := Aside0.mk h4
  have G5 := Aside0.mk h5
  have G6 := Aside0.mk h6
  clear h0 h1 h2 h3 h4 h5 h6
  go_enter Try.func59, Try.ntmps59
  go_wp2_with (first
    | (go_at_call 56; (with_reducible refine (node_goodIno.calls a0 true _ G0.out).mono ?_); rintro e w' ⟨rfl, ⟨nd0, rfl⟩⟩)
    | (go_at_call 64; (with_reducible refine (node_goodKind.calls a1 true _ G1.out).mono ?_); rintro e w' ⟨rfl, ⟨nd1, rfl⟩⟩)
    | (go_at_call 71; (with_reducible refine (in_calls a2 511 true _ G2.out).mono ?_); rintro e w' ⟨rfl, ⟨nd2, rfl⟩⟩)
    | (go_at_call 71; (with_reducible refine (in_calls a3 65535 true _ G3.out).mono ?_); rintro e w' ⟨rfl, ⟨nd3, rfl⟩⟩)
    | (go_at_call 71; (with_reducible refine (in_calls a4 65535 true _ G4.out).mono ?_); rintro e w' ⟨rfl, ⟨nd4, rfl⟩⟩)
    | (go_at_call 71; (with_reducible refine (in_calls a5 100 true _ G5.out).mono ?_); rintro e w' ⟨rfl, ⟨nd5, rfl⟩⟩)
    | (go_at_call 71; (with_reducible refine (in_calls a6 16384 false _ G6.out).mono ?_); rintro e w' ⟨rfl, ⟨nd6, rfl⟩⟩))
  go_ret
  refine ⟨?_, by repeat (first | exact (below_alloc (Below.refl _ _) _) | apply pw_below_drewN | apply below_drew1)⟩
  first | rfl | simp [*]
set_option maxHeartbeats 8000000 in
set_option maxRecDepth 100000 in
theorem right_7 (a0 a1 a2 a3 a4 a5 a6 : Int) (w : World) (h0 : (decide (1 ≤ a0) && decide (a0 ≤ 4096)) = true) (h1 : (decide (1 ≤ a1) && decide (a1 ≤ 3)) = true) (h2 : (decide (0 ≤ a2) && decide (a2 ≤ 511)) = true) (h3 : (decide (0 ≤ a3) && decide (a3 ≤ 65535)) = true) (h4 : (decide (0 ≤ a4) && decide (a4 ≤ 65535)) = true) (h5 : (decide (0 ≤ a5) && decide (a5 ≤ 100)) = true) (h6 : (decide (0 ≤ a6) && decide (a6 ≤ 16384)) = true) : Calls Try.prog 59 #[.agg #[.int .i64 a0, .int .i64 a1, .int .i64 a2, .int .i64 a3, .int .i64 a4, .int .i64 a5, .int .i64 a6]] w fun e w' => e = .returned (.bool true) ∧ Below w.heap.size w w' := by
  have hu52 := Try.underlying52
  have G0 := Aside0.mk (goodIno_f a0 _ h0)
  have G1 := Aside0.mk (goodKind_f a1 _ h1)
  have G2 := Aside0.mk h2
  have G3 := Aside0.mk h3
  have G4 := Aside0.mk h4
  have G5 := Aside0.mk h5
  have G6 := Aside0.mk h6
  clear h0 h1 h2 h3 h4 h5 h6
  go_enter Try.func59, Try.ntmps59
  go_wp2_with (first
    | (go_at_call 56; (with_reducible refine (node_goodIno.calls a0 true _ G0.out).mono ?_); rintro e w' ⟨rfl, ⟨nd0, rfl⟩⟩)
    | (go_at_call 64; (with_reducible refine (node_goodKind.calls a1 true _ G1.out).mono ?_); rintro e w' ⟨rfl, ⟨nd1, rfl⟩⟩)
    | (go_at_call 71; (with_reducible refine (in_calls a2 511 true _ G2.out).mono ?_); rintro e w' ⟨rfl, ⟨nd2, rfl⟩⟩)
    | (go_at_call 71; (with_reducible refine (in_calls a3 65535 true _ G3.out).mono ?_); rintro e w' ⟨rfl, ⟨nd3, rfl⟩⟩)
    | (go_at_call 71; (with_reducible refine (in_calls a4 65535 true _ G4.out).mono ?_); rintro e w' ⟨rfl, ⟨nd4, rfl⟩⟩)
    | (go_at_call 71; (with_reducible refine (in_calls a5 100 true _ G5.out).mono ?_); rintro e w' ⟨rfl, ⟨nd5, rfl⟩⟩)
    | (go_at_call 71; (with_reducible refine (in_calls a6 16384 true _ G6.out).mono ?_); rintro e w' ⟨rfl, ⟨nd6, rfl⟩⟩))
  go_ret
  refine ⟨?_, by repeat (first | exact (below_alloc (Below.refl _ _) _) | apply pw_below_drewN | apply below_drew1)⟩
  first | rfl | simp [*]
theorem node_right.calls (a0 a1 a2 a3 a4 a5 a6 : Int) (r : Bool) (w : World) (h : node_right.f a0 a1 a2 a3 a4 a5 a6 = some r) : Calls Try.prog 59 #[.agg #[.int .i64 a0, .int .i64 a1, .int .i64 a2, .int .i64 a3, .int .i64 a4, .int .i64 a5, .int .i64 a6]] w fun e w' => e = .returned (.bool r) ∧ Below w.heap.size w w' := by
  cases Option.some.inj h
  cases h0 : (decide (1 ≤ a0) && decide (a0 ≤ 4096))
  · simpa [rightInode, h0] using right_0 a0 a1 a2 a3 a4 a5 a6 w h0
  cases h1 : (decide (1 ≤ a1) && decide (a1 ≤ 3))
  · simpa [rightInode, h0, h1] using right_1 a0 a1 a2 a3 a4 a5 a6 w h0 h1
  cases h2 : (decide (0 ≤ a2) && decide (a2 ≤ 511))
  · simpa [rightInode, h0, h1, h2] using right_2 a0 a1 a2 a3 a4 a5 a6 w h0 h1 h2
  cases h3 : (decide (0 ≤ a3) && decide (a3 ≤ 65535))
  · simpa [rightInode, h0, h1, h2, h3] using right_3 a0 a1 a2 a3 a4 a5 a6 w h0 h1 h2 h3
  cases h4 : (decide (0 ≤ a4) && decide (a4 ≤ 65535))
  · simpa [rightInode, h0, h1, h2, h3, h4] using right_4 a0 a1 a2 a3 a4 a5 a6 w h0 h1 h2 h3 h4
  cases h5 : (decide (0 ≤ a5) && decide (a5 ≤ 100))
  · simpa [rightInode, h0, h1, h2, h3, h4, h5] using right_5 a0 a1 a2 a3 a4 a5 a6 w h0 h1 h2 h3 h4 h5
  cases h6 : (decide (0 ≤ a6) && decide (a6 ≤ 16384))
  · simpa [rightInode, h0, h1, h2, h3, h4, h5, h6] using right_6 a0 a1 a2 a3 a4 a5 a6 w h0 h1 h2 h3 h4 h5 h6
  simpa [rightInode, h0, h1, h2, h3, h4, h5, h6] using right_7 a0 a1 a2 a3 a4 a5 a6 w h0 h1 h2 h3 h4 h5 h6
end Go.Proofs.Ytakchpeohmkpkaa.Q
