import Derived.Test.YtfmmmojlnfndkaaDoorE5
import Derived.Lib.IfaceEq
namespace Go.Proofs.YtfmmmojlnfndkaaDoor.As
open Go.RowKit Go.Proofs.YtfmmmojlnfndkaaDoorW.PrintWords Go.Proofs.YtfmmmojlnfndkaaDoorW.PrintLast Go.Extern.Stop Go.Stop Go.Extern
theorem isTypeOf22 (v : Value) (w : World) : (Extern.ReflectliteType.typeOf #[.iface 22 v]).run Tryd.prog w = .ok (.iface 93 (.agg #[.pointer (some ⟨4, 22, none⟩)])) w := by kernel_rfl
theorem isComparable22 (w : World) : (((ReflectliteType.method fun t => do Rtype.noPackHeld "Comparable" t; pure (.bool (← typeInfo t).comparable))) #[.agg #[.pointer (some ⟨4, 22, none⟩)]]).run Tryd.prog w = .ok (.bool true) w := by kernel_rfl
theorem call85 (w : World) : (callFunc 85 #[.agg #[.pointer (some ⟨4, 22, none⟩)]]).run Tryd.prog w = .ok (.value (.bool true)) w := by
  rw [@run_callFunc_extern Tryd.prog 85 _ (ReflectliteType.method fun t => do Rtype.noPackHeld "Comparable" t; pure (.bool (← typeInfo t).comparable)) Tryd.func85 (by kernel_rfl) (by kernel_rfl) (by kernel_rfl) (by kernel_rfl), isComparable22]
  rfl
theorem isMethodComparable (v : Value) (w : World) : (Go.method 253 93 v "Comparable").run Tryd.prog w = .ok (85, v) w := by kernel_rfl
theorem isComp22 : (Tryd.prog.info? 22).map (·.comparable) = some true := by kernel_rfl
theorem isNo22 (v : Value) (xT : TypeId) (w : World) : (Instr.typeAssert (.iface 22 v) xT 104 true).run Tryd.prog w = .ok (.tuple #[.nilIface, .bool false]) w := run_typeAssert_lacksB Tryd.underlying104 (by kernel_rfl) (by kernel_rfl) v xT w
theorem isNo40 (v : Value) (xT : TypeId) (w : World) : (Instr.typeAssert (.iface 40 v) xT 104 true).run Tryd.prog w = .ok (.tuple #[.nilIface, .bool false]) w := run_typeAssert_lacksB Tryd.underlying104 (by kernel_rfl) (by kernel_rfl) v xT w
theorem isNo50 (v : Value) (xT : TypeId) (w : World) : (Instr.typeAssert (.iface 50 v) xT 104 true).run Tryd.prog w = .ok (.tuple #[.nilIface, .bool false]) w := run_typeAssert_lacksB Tryd.underlying104 (by kernel_rfl) (by kernel_rfl) v xT w
theorem isUn22 (v : Value) (xT : TypeId) (w : World) : (Instr.typeAssert (.iface 22 v) xT 100 true).run Tryd.prog w = .ok (.tuple #[.nilIface, .bool false]) w := run_typeAssert_lacksB Tryd.underlying100 (by kernel_rfl) (by kernel_rfl) v xT w
theorem isUns22 (v : Value) (xT : TypeId) (w : World) : (Instr.typeAssert (.iface 22 v) xT 101 true).run Tryd.prog w = .ok (.tuple #[.nilIface, .bool false]) w := run_typeAssert_lacksB Tryd.underlying101 (by kernel_rfl) (by kernel_rfl) v xT w
theorem eql22 (e f : Int) (w : World) : (binOp .eql 32 (.iface 22 (.int .i64 e)) (.iface 22 (.int .i64 f))).run Tryd.prog w = .ok (.bool (e == f)) w := Lib.run_eql_iface_int w e f Tryd.underlying32 isComp22 Tryd.underlying22
theorem eql40_22 (p : Value) (f : Int) (w : World) : (binOp .eql 32 (.iface 40 p) (.iface 22 (.int .i64 f))).run Tryd.prog w = .ok (.bool false) w := run_eql_iface_types 40 22 p (.int .i64 f) Tryd.underlying32 (by decide) w
theorem eql50_22 (p : Value) (f : Int) (w : World) : (binOp .eql 32 (.iface 50 p) (.iface 22 (.int .i64 f))).run Tryd.prog w = .ok (.bool false) w := run_eql_iface_types 50 22 p (.int .i64 f) Tryd.underlying32 (by decide) w
set_option maxRecDepth 20000 in
/-- errors.Is of a *fault.Error that holds the errno e, at the errno e. -/
theorem isB (e : Int) (b : Nat) (w : World) (hb : w.cell? ⟨b, 2, none⟩ = some (.iface 22 (.int .i64 e))) :
    Calls Tryd.prog 26 #[.iface 40 (.pointer (some ⟨b, 0, none⟩)), .iface 22 (.int .i64 e)] w fun ev w' => ev = .returned (.bool true) ∧ w' = w := by
  have h42 := @run_callFunc_extern Tryd.prog 42 _ ReflectliteType.typeOf Tryd.func42 (by kernel_rfl) (by kernel_rfl) (by kernel_rfl) (by kernel_rfl)
  have h85 := call85
  have q0 := isTypeOf22
  have q2 := isMethodComparable
  have q3 := isNo40
  have q4 := asUn40
  have q5 := methodUnwrap40
  have q6 := eql22 e e w
  have q7 := eql40_22 (.pointer (some ⟨b, 0, none⟩)) e w
  rw [show (e == e) = true from by simp] at q6
  go_enter Tryd.func26, Tryd.ntmps26
  go_wp2
  refine wp_loop_rounds 2 ?_
  rw [rounds_succ]
  go_wp2
  all_goals (try (rw [rounds_succ]; go_wp2))
  go_ret
  exact ⟨rfl, rfl⟩
end Go.Proofs.YtfmmmojlnfndkaaDoor.As
