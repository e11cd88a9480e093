/- errors.Is over a chain of errors. -/
import Derived.Test.YtfmmmojlnfndkaaDoorF3
namespace Go.Proofs.YtfmmmojlnfndkaaDoor.As
open Go.RowKit Go.Proofs.YtfmmmojlnfndkaaDoorW.PrintWords Go.Proofs.YtfmmmojlnfndkaaDoorW.PrintLast Go.Extern.Stop Go.Stop Go.Extern
set_option linter.unusedVariables false
set_option maxHeartbeats 4000000 in
set_option maxRecDepth 20000 in
theorem is43 (v : Value) (n : Nat) (r : Option Int) (l : List ByteArray) (f : Int) (w : World) (hC : Ch w v n r l) :
    Calls Tryd.prog 43 #[v, .iface 22 (.int .i64 f), .bool true] w fun ev w' => ev = .returned (.bool (decide (r = some f))) ∧ w' = w := by
  have q2 := isNo22
  have q3 := isNo40
  have q4 := isNo50
  have q5 := isNo88
  have u22 := isUn22
  have z22 := isUns22
  have u88 := asUn88
  have z88 := asUns88
  have u40 := asUn40
  have u50 := asUn50
  have m40 := methodUnwrap40
  have m50 := methodUnwrap50
  have e40 := eql40_22
  have e50 := eql50_22
  have e88 := eql88_22
  have HC := Aside0.mk hC
  obtain ⟨tv, xv, hv⟩ := hC.iface
  clear hC
  go_enter Tryd.func43, Tryd.ntmps43
  go_wp2
  go_loopw [0] (fun u wr => ∃ (m : Nat) (k : List ByteArray), wr = w ∧ Aside0 (Ch w u m r k)) (fun u _ => dep w u)
  case atStart => exact ⟨n, l, rfl, HC⟩
  case round =>
    obtain ⟨m, k, rfl, HC⟩ := hrel
    cases HC.out with
    | errno e =>
      by_cases h : e = f
      · subst h
        have e22 := eql22 e e wr
        rw [show (e == e) = true from by simp] at e22
        go_wp2
        go_ret
        exact ⟨by simp, rfl⟩
      · have e22 := eql22 e f wr
        rw [show (e == f) = false from by simpa using h] at e22
        have h' := Aside0.mk h
        clear h
        go_wp2
        go_ret
        exact ⟨by have := h'.out; simp [this], rfl⟩
    | str b =>
      go_wp2
      go_ret
      exact ⟨by simp, rfl⟩
    | bare b op c1 c2 =>
      go_wp2
      go_ret
      exact ⟨by simp, rfl⟩
    | wrap b op v' m' r' k' c1 c2 c3 =>
      have HD := Aside0.mk c3
      obtain ⟨ty, x, hx⟩ := c3.iface
      subst hx
      have hm := Aside0.mk (dep_of c3)
      have hn := Aside0.mk (dep_of HC.out)
      clear c3 HC
      go_wp2
      go_roundw
      case rel => exact ⟨_, _, trivial, HD⟩
      case measure => show dep wr (Value.iface ty x) < _; rw [hm.out, hn.out]; omega
    | other b v' m' r' k' c1 c3 =>
      have HD := Aside0.mk c3
      obtain ⟨ty, x, hx⟩ := c3.iface
      subst hx
      have hm := Aside0.mk (dep_of c3)
      have hn := Aside0.mk (dep_of HC.out)
      clear c3 HC
      go_wp2
      go_roundw
      case rel => exact ⟨_, _, trivial, HD⟩
      case measure => show dep wr (Value.iface ty x) < _; rw [hm.out, hn.out]; omega
set_option maxRecDepth 20000 in
theorem isCh (v : Value) (n : Nat) (r : Option Int) (l : List ByteArray) (f : Int) (w : World) (hC : Ch w v n r l) :
    Calls Tryd.prog 26 #[v, .iface 22 (.int .i64 f)] w fun ev w' => ev = .returned (.bool (decide (r = some f))) ∧ w' = w := by
  have h42 := @run_callFunc_extern Tryd.prog 42 _ ReflectliteType.typeOf Tryd.func42 (by kernel_rfl) (by kernel_rfl) (by kernel_rfl) (by kernel_rfl)
  have h85 := call85
  have q0 := isTypeOf22
  have q2 := isMethodComparable
  have HA := is43 v n r l f w hC
  obtain ⟨tv, xv, hv⟩ := hC.iface
  subst hv
  clear hC
  obtain ⟨bb, hbb⟩ : ∃ bb, bb = decide (r = some f) := ⟨_, rfl⟩
  rw [← hbb] at HA ⊢
  clear hbb
  go_enter Tryd.func26, Tryd.ntmps26
  go_wp2_with (fail)
  refine HA.mono ?_
  rintro ev w' ⟨rfl, rfl⟩
  all_goals (try go_wp2)
  go_ret
  exact ⟨rfl, rfl⟩
/-! ### at an error of errors.New's -/
theorem isTypeOf88 (v : Value) (w : World) : (Extern.ReflectliteType.typeOf #[.iface 88 v]).run Tryd.prog w = .ok (.iface 93 (.agg #[.pointer (some ⟨4, 88, none⟩)])) w := by kernel_rfl
theorem isComparable88 (w : World) : ((ReflectliteType.method fun t => do Rtype.noPackHeld "Comparable" t; pure (.bool (← typeInfo t).comparable)) #[.agg #[.pointer (some ⟨4, 88, none⟩)]]).run Tryd.prog w = .ok (.bool true) w := by kernel_rfl
theorem call85b (w : World) : (callFunc 85 #[.agg #[.pointer (some ⟨4, 88, none⟩)]]).run Tryd.prog w = .ok (.value (.bool true)) w := by
  rw [@run_callFunc_extern Tryd.prog 85 _ (ReflectliteType.method fun t => do Rtype.noPackHeld "Comparable" t; pure (.bool (← typeInfo t).comparable)) Tryd.func85 (by kernel_rfl) (by kernel_rfl) (by kernel_rfl) (by kernel_rfl), isComparable88]
  rfl
theorem isComp88 : (Tryd.prog.info? 88).map (·.comparable) = some true := by kernel_rfl
theorem isSize90 : (Tryd.prog.info? 90).map (·.size) = some 1 := by kernel_rfl
theorem eql40_88 (p q : Value) (w : World) : (binOp .eql 32 (.iface 40 p) (.iface 88 q)).run Tryd.prog w = .ok (.bool false) w := run_eql_iface_types 40 88 p q Tryd.underlying32 (by decide) w
set_option maxRecDepth 20000 in
theorem isStr (b c : Nat) (w : World) (hb : w.cell? ⟨b, 2, none⟩ = some (.iface 88 (.pointer (some ⟨c, 0, none⟩)))) :
    Calls Tryd.prog 26 #[.iface 40 (.pointer (some ⟨b, 0, none⟩)), .iface 88 (.pointer (some ⟨c, 0, none⟩))] w fun ev w' => ev = .returned (.bool true) ∧ w' = w := by
  obtain ⟨i, hi, hcmp⟩ := Option.map_eq_some_iff.1 isComp88
  obtain ⟨j, hj, hjs⟩ := Option.map_eq_some_iff.1 isSize90
  have heq := run_eql_iface_ptr_same (P := Tryd.prog) w ⟨c, 0, none⟩ Tryd.underlying32 Tryd.underlying88 hi hcmp hj
  clear hi hcmp hj hjs
  have h42 := @run_callFunc_extern Tryd.prog 42 _ ReflectliteType.typeOf Tryd.func42 (by kernel_rfl) (by kernel_rfl) (by kernel_rfl) (by kernel_rfl)
  have h85 := call85b
  have q0 := isTypeOf88
  have q2 := isMethodComparable
  have q3 := isNo40
  have q4 := asUn40
  have q5 := methodUnwrap40
  have q7 := eql40_88 (.pointer (some ⟨b, 0, none⟩)) (.pointer (some ⟨c, 0, none⟩)) w
  go_enter Tryd.func26, Tryd.ntmps26
  go_wp2
  refine wp_loop_rounds 2 ?_
  rw [rounds_succ]
  go_wp2
  all_goals (try (rw [rounds_succ]; go_wp2))
  go_ret
  exact ⟨rfl, rfl⟩
end Go.Proofs.YtfmmmojlnfndkaaDoor.As
