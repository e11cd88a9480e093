/- HandlesNils, walked. -/
import Derived.Test.YtgjajdejjiiocaaH10
namespace Go.Proofs.Ytgjajdejjiiocaa.Q
open Go.RowKit Go.Proofs.YtgjajdejjiiocaaW.PrintWords Go.Proofs.YtgjajdejjiiocaaW.PrintLast Go.Proofs.Ytgjajdejjiiocaa.Sep
set_option linter.unusedVariables false
set_option linter.unusedSimpArgs false
theorem seek_nil (h n wh z : Int) (w : World) : Calls Try.prog 15 #[.pointer none, .int .i64 h, .int .i64 n, .int .i64 wh, .int .i64 z] w fun e1 w' => e1 = .returned (.tuple #[.int .i64 0, .int .i64 14]) ∧ w = w' := seek_bad _ _ _ _ _ 14 (.inr rfl) (get_nil h)
theorem move_nil (h n : Int) (w : World) : Calls Try.prog 17 #[.pointer none, .int .i64 h, .int .i64 n] w fun e1 w' => e1 = .returned (.int .i64 14) ∧ w = w' := move_bad _ _ _ 14 (.inr rfl) (get_nil h)
def pumicelaw23_HandlesNils.f (a0 a1 : Int) : Option Bool := some true
theorem bt {w a b : World} (h : Below w.heap.size w a) (k : Below a.heap.size a b) : Below w.heap.size w b := h.trans (k.mono h.size)
set_option maxHeartbeats 2000000 in
theorem nils_walk (a0 a1 : Int) (w : World) : Calls Try.prog 6 #[.int .i64 a0, .int .i64 a1] w (RetPost w (.bool true)) := by
  go_enter Try.func6, Try.ntmps6
  go_wp2_with (first
    | (go_at_call 9; (with_reducible refine (open_nil 1 1 _).mono ?_); rintro e w' ⟨rfl, rfl⟩)
    | (go_at_call 10; (with_reducible refine (close_nil a0 _).mono ?_); rintro e w' ⟨rfl, rfl⟩)
    | (go_at_call 22; (with_reducible refine (Get_nil a0 _).mono ?_); rintro e w1 ⟨rfl, hb⟩; have HB := Aside0.mk hb; clear hb; unfold aggF fcells)
    | (go_at_call 15; (with_reducible refine (seek_nil a0 a1 0 0 _).mono ?_); rintro e w' ⟨rfl, rfl⟩)
    | (go_at_call 17; (with_reducible refine (move_nil a0 a1 _).mono ?_); rintro e w' ⟨rfl, rfl⟩)
    | (go_at_call 19; (with_reducible refine (users_nil a1 _).mono ?_); rintro e w2 ⟨rfl, hb⟩; have HB2 := Aside0.mk hb; clear hb)
    | (go_at_call 11; (with_reducible refine (numbers_nil _).mono ?_); rintro e w3 ⟨v, rfl, hr, hb⟩; obtain ⟨A, c, rfl⟩ := Kd.R_slice hr; have HB3 := Aside0.mk hb; clear hb hr)
    | (go_at_call 8; (with_reducible refine (alive_calls _).mono ?_); rintro e w4 ⟨rfl, hb⟩; have HB4 := Aside0.mk hb; clear hb))
  go_ret
  exact ⟨rfl, bt (bt (bt (HB.out.alloc HB.out.size _) HB2.out) HB3.out) HB4.out⟩
theorem pumicelaw23_HandlesNils.calls (a0 a1 : Int) (r : Bool) (w : World) (h : pumicelaw23_HandlesNils.f a0 a1 = some r) : Calls Try.prog 6 #[.int .i64 a0, .int .i64 a1] w fun e w' => e = .returned (.bool r) ∧ Below w.heap.size w w' := by
  obtain rfl := Option.some.inj h
  exact nils_walk a0 a1 w
end Go.Proofs.Ytgjajdejjiiocaa.Q
