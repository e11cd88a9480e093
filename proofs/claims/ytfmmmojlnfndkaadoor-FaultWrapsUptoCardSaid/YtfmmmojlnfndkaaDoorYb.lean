/- E0, E1, E2, E3, E4, E5, E6, H0, H1, Q3, Q4, H2, Q5, H3a, H3 -/
import Derived.Test.YtfmmmojlnfndkaaDoorProg
import Derived.WalkKit
import Derived.LaidEql
import Derived.Stop.Asserts
import Derived.RowKitTokens
import Derived.OneCell
import Derived.Lib.IfaceEq
import Derived.Lib.LaidTab
import Derived.Lib.ItoaNum
import Derived.Shelf.Strconv.Itoa3
import Derived.Lib.Strings
import Derived.Test.YtfmmmojlnfndkaaDoorYa
namespace Go.Proofs.YtfmmmojlnfndkaaDoor.As
open Go.RowKit Go.Extern.Stop Go.Stop Go.Extern

theorem methodKind (h : Value) (w : World) : (Go.method 253 93 (.agg #[h]) "Kind").run Tryd.prog w = .ok (74, h) w := by kernel_rfl
theorem methodElem (h : Value) (w : World) : (Go.method 253 93 (.agg #[h]) "Elem").run Tryd.prog w = .ok (86, .agg #[h]) w := by kernel_rfl
theorem methodImplements (h : Value) (w : World) : (Go.method 253 93 (.agg #[h]) "Implements").run Tryd.prog w = .ok (87, .agg #[h]) w := by kernel_rfl
theorem methodAssignableTo (h : Value) (w : World) : (Go.method 253 93 (.agg #[h]) "AssignableTo").run Tryd.prog w = .ok (84, .agg #[h]) w := by kernel_rfl
theorem rlm (z : Sem Value) (f : TypeId → Addr → Nat → Nat → Sem Value) (v : Value) :
    ReflectliteValue.method z f #[v] = (do match ← ReflectliteValue.parts v with | none => z | some (t, a, fl) => f t a fl (fl % 32)) := rfl
theorem valueOf73 (t : Addr) (w : World) : (ReflectliteValue.unpack (.iface 73 (.pointer (some t)))).run Tryd.prog w
    = .ok (.agg #[.pointer (some ⟨4, 73, none⟩), .pointer (some ⟨w.heap.size, 0, none⟩), .int .u64 150]) (w.alloc (.cells #[.pointer (some t)] 73)) := by kernel_rfl
theorem type73 (a : Addr) (w : World) : (ReflectliteValue.methodAny (ReflectliteValue.valueError "reflectlite.Value.Type" 0) (fun t _ _ _ => ReflectliteType.toType t) #[.agg #[.pointer (some ⟨4, 73, none⟩), .pointer (some a), .int .u64 150]]).run Tryd.prog w
    = .ok (.iface 93 (.agg #[.pointer (some ⟨4, 73, none⟩)])) w := by kernel_rfl
theorem kind73 (w : World) : ((ReflectliteType.abiMethod fun t => (fun a : Nat => Value.int IntKind.u8 (a : Int)) <$> Rtype.kind t) #[.pointer (some ⟨4, 73, none⟩)]).run Tryd.prog w = .ok (.int .u8 22) w := by kernel_rfl
theorem kind22 (w : World) : ((ReflectliteType.abiMethod fun t => (fun a : Nat => Value.int IntKind.u8 (a : Int)) <$> Rtype.kind t) #[.pointer (some ⟨4, 22, none⟩)]).run Tryd.prog w = .ok (.int .u8 2) w := by kernel_rfl
theorem parts73 (a : Addr) (w : World) : (ReflectliteValue.parts (.agg #[.pointer (some ⟨4, 73, none⟩), .pointer (some a), .int .u64 150])).run Tryd.prog w = .ok (some (73, a, 150)) w := by kernel_rfl
theorem isNil73 (a p : Addr) (W : World) (ha : W.cell? a = some (.pointer (some p))) :
    (ReflectliteValue.method (ReflectliteValue.valueError "reflectlite.Value.IsNil" 0) ReflectliteValue.isNil #[.agg #[.pointer (some ⟨4, 73, none⟩), .pointer (some a), .int .u64 150]]).run Tryd.prog W = .ok (.bool false) W := by
  rw [rlm]
  simp only [Sem.run_bind, parts73, Result.andThen]
  simp [ReflectliteValue.isNil, loadVar, isAgg, underlying, Tryd.underlying73, ha, Result.andThen]
theorem elem73 (w : World) : (ReflectliteType.method ReflectliteType.elem #[.agg #[.pointer (some ⟨4, 73, none⟩)]]).run Tryd.prog w = .ok (.iface 93 (.agg #[.pointer (some ⟨4, 22, none⟩)])) w := by kernel_rfl
theorem implements22 (w : World) : (ReflectliteType.relation "Implements" ReflectliteType.implements_ #[.agg #[.pointer (some ⟨4, 22, none⟩)], .iface 93 (.agg #[.pointer (some ⟨4, 32, none⟩)])]).run Tryd.prog w = .ok (.bool true) w := by kernel_rfl
theorem typeOf22 (v : Value) (w : World) : (ReflectliteType.typeOf #[.iface 22 v]).run Tryd.prog w = .ok (.iface 93 (.agg #[.pointer (some ⟨4, 22, none⟩)])) w := by kernel_rfl
theorem assignable22_22 (w : World) : (ReflectliteType.relation "AssignableTo" ReflectliteType.assignableTo #[.agg #[.pointer (some ⟨4, 22, none⟩)], .iface 93 (.agg #[.pointer (some ⟨4, 22, none⟩)])]).run Tryd.prog w = .ok (.bool true) w := by kernel_rfl
theorem assignable40_22 (w : World) : (ReflectliteType.relation "AssignableTo" ReflectliteType.assignableTo #[.agg #[.pointer (some ⟨4, 40, none⟩)], .iface 93 (.agg #[.pointer (some ⟨4, 22, none⟩)])]).run Tryd.prog w = .ok (.bool false) w := by kernel_rfl
theorem assignable50_22 (w : World) : (ReflectliteType.relation "AssignableTo" ReflectliteType.assignableTo #[.agg #[.pointer (some ⟨4, 50, none⟩)], .iface 93 (.agg #[.pointer (some ⟨4, 22, none⟩)])]).run Tryd.prog w = .ok (.bool false) w := by kernel_rfl
theorem assignable88_22 (w : World) : (ReflectliteType.relation "AssignableTo" ReflectliteType.assignableTo #[.agg #[.pointer (some ⟨4, 88, none⟩)], .iface 93 (.agg #[.pointer (some ⟨4, 22, none⟩)])]).run Tryd.prog w = .ok (.bool false) w := by kernel_rfl
theorem valueOf22 (e : Int) (w : World) : (ReflectliteValue.unpack (.iface 22 (.int .i64 e))).run Tryd.prog w
    = .ok (.agg #[.pointer (some ⟨4, 22, none⟩), .pointer (some ⟨w.heap.size, 0, none⟩), .int .u64 130]) (w.alloc (.cells #[.int .i64 e] 22)) := by kernel_rfl
theorem elemOf73 (w : World) : (Rtype.elem? 73).run Tryd.prog w = .ok (some 22) w := by kernel_rfl
theorem mk22 (p : Addr) (w : World) : (ReflectliteValue.mk 22 p ReflectliteValue.flagAddr).run Tryd.prog w = .ok (.agg #[.pointer (some ⟨4, 22, none⟩), .pointer (some p), .int .u64 386]) w := by kernel_rfl
theorem elemV73 (a p : Addr) (W : World) (ha : W.cell? a = some (.pointer (some p))) :
    (ReflectliteValue.method (ReflectliteValue.valueError "reflectlite.Value.Elem" 0) ReflectliteValue.elem #[.agg #[.pointer (some ⟨4, 73, none⟩), .pointer (some a), .int .u64 150]]).run Tryd.prog W
      = .ok (.agg #[.pointer (some ⟨4, 22, none⟩), .pointer (some p), .int .u64 386]) W := by
  rw [rlm]
  simp only [Sem.run_bind, parts73, Result.andThen]
  simp [ReflectliteValue.elem, loadVar, isAgg, underlying, Tryd.underlying73, ha, Result.andThen, elemOf73, mk22]
theorem parts22a (a : Addr) (w : World) : (ReflectliteValue.parts (.agg #[.pointer (some ⟨4, 22, none⟩), .pointer (some a), .int .u64 386])).run Tryd.prog w = .ok (some (22, a, 386)) w := by kernel_rfl
theorem parts22 (a : Addr) (w : World) : (ReflectliteValue.parts (.agg #[.pointer (some ⟨4, 22, none⟩), .pointer (some a), .int .u64 130])).run Tryd.prog w = .ok (some (22, a, 130)) w := by kernel_rfl
theorem direct22 (w : World) : (Rtype.directlyAssignable 22 22).run Tryd.prog w = .ok true w := by kernel_rfl
theorem valueOf42 (t : Addr) (w : World) : (ReflectliteValue.unpack (.iface 42 (.pointer (some t)))).run Tryd.prog w
    = .ok (.agg #[.pointer (some ⟨4, 42, none⟩), .pointer (some ⟨w.heap.size, 0, none⟩), .int .u64 150]) (w.alloc (.cells #[.pointer (some t)] 42)) := by kernel_rfl
theorem type42 (a : Addr) (w : World) : (ReflectliteValue.methodAny (ReflectliteValue.valueError "reflectlite.Value.Type" 0) (fun t _ _ _ => ReflectliteType.toType t) #[.agg #[.pointer (some ⟨4, 42, none⟩), .pointer (some a), .int .u64 150]]).run Tryd.prog w
    = .ok (.iface 93 (.agg #[.pointer (some ⟨4, 42, none⟩)])) w := by kernel_rfl
theorem kind42 (w : World) : ((ReflectliteType.abiMethod fun t => (fun a : Nat => Value.int IntKind.u8 (a : Int)) <$> Rtype.kind t) #[.pointer (some ⟨4, 42, none⟩)]).run Tryd.prog w = .ok (.int .u8 22) w := by kernel_rfl
theorem kind40 (w : World) : ((ReflectliteType.abiMethod fun t => (fun a : Nat => Value.int IntKind.u8 (a : Int)) <$> Rtype.kind t) #[.pointer (some ⟨4, 40, none⟩)]).run Tryd.prog w = .ok (.int .u8 22) w := by kernel_rfl
theorem parts42 (a : Addr) (w : World) : (ReflectliteValue.parts (.agg #[.pointer (some ⟨4, 42, none⟩), .pointer (some a), .int .u64 150])).run Tryd.prog w = .ok (some (42, a, 150)) w := by kernel_rfl
theorem isNil42 (a p : Addr) (W : World) (ha : W.cell? a = some (.pointer (some p))) :
    (ReflectliteValue.method (ReflectliteValue.valueError "reflectlite.Value.IsNil" 0) ReflectliteValue.isNil #[.agg #[.pointer (some ⟨4, 42, none⟩), .pointer (some a), .int .u64 150]]).run Tryd.prog W = .ok (.bool false) W := by
  rw [rlm]
  simp only [Sem.run_bind, parts42, Result.andThen]
  simp [ReflectliteValue.isNil, loadVar, isAgg, underlying, Tryd.underlying42, ha, Result.andThen]
theorem elem42 (w : World) : (ReflectliteType.method ReflectliteType.elem #[.agg #[.pointer (some ⟨4, 42, none⟩)]]).run Tryd.prog w = .ok (.iface 93 (.agg #[.pointer (some ⟨4, 40, none⟩)])) w := by kernel_rfl
theorem implements40 (w : World) : (ReflectliteType.relation "Implements" ReflectliteType.implements_ #[.agg #[.pointer (some ⟨4, 40, none⟩)], .iface 93 (.agg #[.pointer (some ⟨4, 32, none⟩)])]).run Tryd.prog w = .ok (.bool true) w := by kernel_rfl
theorem typeOf40 (v : Value) (w : World) : (ReflectliteType.typeOf #[.iface 40 v]).run Tryd.prog w = .ok (.iface 93 (.agg #[.pointer (some ⟨4, 40, none⟩)])) w := by kernel_rfl
theorem assignable22_40 (w : World) : (ReflectliteType.relation "AssignableTo" ReflectliteType.assignableTo #[.agg #[.pointer (some ⟨4, 22, none⟩)], .iface 93 (.agg #[.pointer (some ⟨4, 40, none⟩)])]).run Tryd.prog w = .ok (.bool false) w := by kernel_rfl
theorem assignable40_40 (w : World) : (ReflectliteType.relation "AssignableTo" ReflectliteType.assignableTo #[.agg #[.pointer (some ⟨4, 40, none⟩)], .iface 93 (.agg #[.pointer (some ⟨4, 40, none⟩)])]).run Tryd.prog w = .ok (.bool true) w := by kernel_rfl
theorem assignable50_40 (w : World) : (ReflectliteType.relation "AssignableTo" ReflectliteType.assignableTo #[.agg #[.pointer (some ⟨4, 50, none⟩)], .iface 93 (.agg #[.pointer (some ⟨4, 40, none⟩)])]).run Tryd.prog w = .ok (.bool false) w := by kernel_rfl
theorem assignable88_40 (w : World) : (ReflectliteType.relation "AssignableTo" ReflectliteType.assignableTo #[.agg #[.pointer (some ⟨4, 88, none⟩)], .iface 93 (.agg #[.pointer (some ⟨4, 40, none⟩)])]).run Tryd.prog w = .ok (.bool false) w := by kernel_rfl
theorem valueOf40 (e : Addr) (w : World) : (ReflectliteValue.unpack (.iface 40 (.pointer (some e)))).run Tryd.prog w
    = .ok (.agg #[.pointer (some ⟨4, 40, none⟩), .pointer (some ⟨w.heap.size, 0, none⟩), .int .u64 150]) (w.alloc (.cells #[.pointer (some e)] 40)) := by kernel_rfl
theorem elemOf42 (w : World) : (Rtype.elem? 42).run Tryd.prog w = .ok (some 40) w := by kernel_rfl
theorem mk40 (p : Addr) (w : World) : (ReflectliteValue.mk 40 p ReflectliteValue.flagAddr).run Tryd.prog w = .ok (.agg #[.pointer (some ⟨4, 40, none⟩), .pointer (some p), .int .u64 406]) w := by kernel_rfl
theorem elemV42 (a p : Addr) (W : World) (ha : W.cell? a = some (.pointer (some p))) :
    (ReflectliteValue.method (ReflectliteValue.valueError "reflectlite.Value.Elem" 0) ReflectliteValue.elem #[.agg #[.pointer (some ⟨4, 42, none⟩), .pointer (some a), .int .u64 150]]).run Tryd.prog W
      = .ok (.agg #[.pointer (some ⟨4, 40, none⟩), .pointer (some p), .int .u64 406]) W := by
  rw [rlm]
  simp only [Sem.run_bind, parts42, Result.andThen]
  simp [ReflectliteValue.elem, loadVar, isAgg, underlying, Tryd.underlying42, ha, Result.andThen, elemOf42, mk40]
theorem parts40a (a : Addr) (w : World) : (ReflectliteValue.parts (.agg #[.pointer (some ⟨4, 40, none⟩), .pointer (some a), .int .u64 406])).run Tryd.prog w = .ok (some (40, a, 406)) w := by kernel_rfl
theorem parts40 (a : Addr) (w : World) : (ReflectliteValue.parts (.agg #[.pointer (some ⟨4, 40, none⟩), .pointer (some a), .int .u64 150])).run Tryd.prog w = .ok (some (40, a, 150)) w := by kernel_rfl
theorem direct40 (w : World) : (Rtype.directlyAssignable 40 40).run Tryd.prog w = .ok true w := by kernel_rfl
theorem typeOf50 (v : Value) (w : World) : (ReflectliteType.typeOf #[.iface 50 v]).run Tryd.prog w = .ok (.iface 93 (.agg #[.pointer (some ⟨4, 50, none⟩)])) w := by kernel_rfl
theorem typeOf88 (v : Value) (w : World) : (ReflectliteType.typeOf #[.iface 88 v]).run Tryd.prog w = .ok (.iface 93 (.agg #[.pointer (some ⟨4, 88, none⟩)])) w := by kernel_rfl
end Go.Proofs.YtfmmmojlnfndkaaDoor.As

namespace Go.Proofs.YtfmmmojlnfndkaaDoor.As
open Go.RowKit Go.Extern.Stop Go.Stop Go.Extern

theorem rls (v x : Value) : ReflectliteValue.set #[v, x] = (do
    let (some (dst, a, fl), some (src, b, _)) := (← ReflectliteValue.parts v, ← ReflectliteValue.parts x)
      | unsupported (.noEntry "extern/(internal/reflectlite.Value).Set.zeroValue")
    if fl / ReflectliteValue.flagAddr % 2 == 0 then unsupported (.noEntry "extern/(internal/reflectlite.Value).Set.unaddressable")
    let val ← loadVar src b
    if ← Rtype.directlyAssignable dst src then storeVar dst a val
    else if ← Rtype.implements dst src then
      if (← Rtype.kind src) == 20 then
        match val with
        | .nilIface => unsupported (.noEntry "extern/reflectlite: a nil value of one interface type handed on as a value of another")
        | _ => storeVar dst a val
      else storeVar dst a (.iface src val)
    else panicString ("reflectlite.Set: value of type " ++ (← Rtype.spelt src) ++ " is not assignable to type " ++ (← Rtype.spelt dst))
    pure (.tuple #[])) := rfl
theorem set22 (ta b : Addr) (e : Int) (old : Value) (W : World) (hb : W.cell? b = some (.int .i64 e)) (ht : W.cell? ta = some old) (hf : W.frozen? ta = false) :
    (ReflectliteValue.set #[.agg #[.pointer (some ⟨4, 22, none⟩), .pointer (some ta), .int .u64 386], .agg #[.pointer (some ⟨4, 22, none⟩), .pointer (some b), .int .u64 130]]).run Tryd.prog W
      = .ok (.tuple #[]) (W.setCell ta (.int .i64 e)) := by
  rw [rls]
  simp only [Sem.run_bind, parts22a, parts22, Result.andThen]
  simp [ReflectliteValue.flagAddr, loadVar, isAgg, underlying, Tryd.underlying22, hb, Result.andThen, direct22, storeVar, Value.cells, storeCells, Addr.add]
  rw [run_store Tryd.prog W ta _ _ (by rfl)]
  simp [ht, hf]
set_option maxHeartbeats 4000000 in
theorem as_hit22 (e : Int) (t : Addr) (old : Value) (w : World) (hg : w.cell? ⟨0, 0, none⟩ = some (.iface 93 (.agg #[.pointer (some ⟨4, 32, none⟩)]))) (ht0 : w.cell? t = some old) (hf0 : w.frozen? t = false) :
    Calls Tryd.prog 21 #[.iface 22 (.int .i64 e), .iface 73 (.pointer (some t))] w fun ev w' => ev = .returned (.bool true) ∧ w' = ((((w.alloc (.cells #[.pointer (some t)] 73)).alloc (.cells #[.pointer (some ⟨4, 73, none⟩), .pointer (some ⟨w.heap.size, 0, none⟩), .int .u64 150] 77)).alloc (.cells #[.pointer (some ⟨4, 73, none⟩), .pointer (some ⟨w.heap.size, 0, none⟩), .int .u64 150] 77)).alloc (.cells #[.int .i64 e] 22)).setCell t (.int .i64 e) := by
  have h37 := @run_callFunc_extern Tryd.prog 37 _ (fun args => ReflectliteValue.unpack (args.getD 0 (.tuple #[]))) Tryd.func37 (by kernel_rfl) (by kernel_rfl) (by kernel_rfl) (by kernel_rfl)
  have h38 := @run_callFunc_extern Tryd.prog 38 _ (ReflectliteValue.methodAny (ReflectliteValue.valueError "reflectlite.Value.Type" 0) (fun t _ _ _ => ReflectliteType.toType t)) Tryd.func38 (by kernel_rfl) (by kernel_rfl) (by kernel_rfl) (by kernel_rfl)
  have h39 := @run_callFunc_extern Tryd.prog 39 _ (ReflectliteValue.method (ReflectliteValue.valueError "reflectlite.Value.IsNil" 0) ReflectliteValue.isNil) Tryd.func39 (by kernel_rfl) (by kernel_rfl) (by kernel_rfl) (by kernel_rfl)
  have h74 := @run_callFunc_extern Tryd.prog 74 _ (ReflectliteType.abiMethod fun t => do pure (.int .u8 (← Rtype.kind t))) Tryd.func74 (by kernel_rfl) (by kernel_rfl) (by kernel_rfl) (by kernel_rfl)
  have h86 := @run_callFunc_extern Tryd.prog 86 _ (ReflectliteType.method ReflectliteType.elem) Tryd.func86 (by kernel_rfl) (by kernel_rfl) (by kernel_rfl) (by kernel_rfl)
  have h87 := @run_callFunc_extern Tryd.prog 87 _ (ReflectliteType.relation "Implements" ReflectliteType.implements_) Tryd.func87 (by kernel_rfl) (by kernel_rfl) (by kernel_rfl) (by kernel_rfl)
  have h42 := @run_callFunc_extern Tryd.prog 42 _ ReflectliteType.typeOf Tryd.func42 (by kernel_rfl) (by kernel_rfl) (by kernel_rfl) (by kernel_rfl)
  have h84 := @run_callFunc_extern Tryd.prog 84 _ (ReflectliteType.relation "AssignableTo" ReflectliteType.assignableTo) Tryd.func84 (by kernel_rfl) (by kernel_rfl) (by kernel_rfl) (by kernel_rfl)
  have h45 := @run_callFunc_extern Tryd.prog 45 _ (ReflectliteValue.method (ReflectliteValue.valueError "reflectlite.Value.Elem" 0) ReflectliteValue.elem) Tryd.func45 (by kernel_rfl) (by kernel_rfl) (by kernel_rfl) (by kernel_rfl)
  have h46 := @run_callFunc_extern Tryd.prog 46 _ ReflectliteValue.set Tryd.func46 (by kernel_rfl) (by kernel_rfl) (by kernel_rfl) (by kernel_rfl)
  have q0 := typeOf22
  have q1 := methodAssignableTo
  have q2 := assignable22_22
  have q3 := valueOf22
  have q4 := valueOf73
  have q5 := type73
  have q6 := methodKind
  have q7 := methodElem
  have q8 := methodImplements
  have q9 := kind73
  have q10 := kind22
  have q11 := elem73
  have q12 := implements22
  have n8 := isNil73 ⟨w.heap.size, 0, none⟩ t ((w.alloc (.cells #[.pointer (some t)] 73)).alloc (.cells #[.pointer (some ⟨4, 73, none⟩), .pointer (some ⟨w.heap.size, 0, none⟩), .int .u64 150] 77)) (by simp)
  have hlt : 0 < w.heap.size := by
    rcases Nat.eq_zero_or_pos w.heap.size with h0 | h
    · simp [World.cell?, h0] at hg
    · exact h
  have hg2 : ((w.alloc (.cells #[.pointer (some t)] 73)).alloc (.cells #[.pointer (some ⟨4, 73, none⟩), .pointer (some ⟨w.heap.size, 0, none⟩), .int .u64 150] 77)).cell? ⟨0, 0, none⟩ = some (.iface 93 (.agg #[.pointer (some ⟨4, 32, none⟩)])) := by
    rw [World.cell?_alloc_lt _ _ ⟨0, 0, none⟩ (by simp), World.cell?_alloc_lt _ _ ⟨0, 0, none⟩ hlt]; exact hg
  have htl : t.block < w.heap.size := by
    rcases Nat.lt_or_ge t.block w.heap.size with h | h
    · exact h
    · simp [World.cell?, Array.getElem?_eq_none h] at ht0
  have el := elemV73 ⟨w.heap.size, 0, none⟩ t (((w.alloc (.cells #[.pointer (some t)] 73)).alloc (.cells #[.pointer (some ⟨4, 73, none⟩), .pointer (some ⟨w.heap.size, 0, none⟩), .int .u64 150] 77)).alloc (.cells #[.pointer (some ⟨4, 73, none⟩), .pointer (some ⟨w.heap.size, 0, none⟩), .int .u64 150] 77)) (by rw [World.cell?_alloc_lt _ _ ⟨w.heap.size, 0, none⟩ (by simp; omega)]; simp)
  have st := set22 t ⟨w.heap.size + 1 + 1 + 1, 0, none⟩ e old ((((w.alloc (.cells #[.pointer (some t)] 73)).alloc (.cells #[.pointer (some ⟨4, 73, none⟩), .pointer (some ⟨w.heap.size, 0, none⟩), .int .u64 150] 77)).alloc (.cells #[.pointer (some ⟨4, 73, none⟩), .pointer (some ⟨w.heap.size, 0, none⟩), .int .u64 150] 77)).alloc (.cells #[.int .i64 e] 22))
    (by rw [World.cell?_alloc_at _ _ _ _ (by simp)]; rfl)
    (by rw [World.cell?_alloc_lt _ _ t (by simp; omega), World.cell?_alloc_lt _ _ t (by simp; omega), World.cell?_alloc_lt _ _ t (by simp; omega), World.cell?_alloc_lt _ _ t htl]; exact ht0)
    (by rw [World.frozen?_alloc_old _ _ t (by simp; omega), World.frozen?_alloc_old _ _ t (by simp; omega), World.frozen?_alloc_old _ _ t (by simp; omega), World.frozen?_alloc_old _ _ t (Nat.ne_of_lt htl)]; exact hf0)
  go_enter Tryd.func21, Tryd.ntmps21
  go_wp2
  refine wp_loop_rounds 1 ?_
  rw [rounds_succ]
  go_wp2
  go_ret
  exact ⟨rfl, rfl⟩
theorem set40 (ta b : Addr) (e : Addr) (old : Value) (W : World) (hb : W.cell? b = some (.pointer (some e))) (ht : W.cell? ta = some old) (hf : W.frozen? ta = false) :
    (ReflectliteValue.set #[.agg #[.pointer (some ⟨4, 40, none⟩), .pointer (some ta), .int .u64 406], .agg #[.pointer (some ⟨4, 40, none⟩), .pointer (some b), .int .u64 150]]).run Tryd.prog W
      = .ok (.tuple #[]) (W.setCell ta (.pointer (some e))) := by
  rw [rls]
  simp only [Sem.run_bind, parts40a, parts40, Result.andThen]
  simp [ReflectliteValue.flagAddr, loadVar, isAgg, underlying, Tryd.underlying40, hb, Result.andThen, direct40, storeVar, Value.cells, storeCells, Addr.add]
  rw [run_store Tryd.prog W ta _ _ (by rfl)]
  simp [ht, hf]
set_option maxHeartbeats 4000000 in
theorem as_hit40 (e : Addr) (t : Addr) (old : Value) (w : World) (hg : w.cell? ⟨0, 0, none⟩ = some (.iface 93 (.agg #[.pointer (some ⟨4, 32, none⟩)]))) (ht0 : w.cell? t = some old) (hf0 : w.frozen? t = false) :
    Calls Tryd.prog 21 #[.iface 40 (.pointer (some e)), .iface 42 (.pointer (some t))] w fun ev w' => ev = .returned (.bool true) ∧ w' = ((((w.alloc (.cells #[.pointer (some t)] 42)).alloc (.cells #[.pointer (some ⟨4, 42, none⟩), .pointer (some ⟨w.heap.size, 0, none⟩), .int .u64 150] 77)).alloc (.cells #[.pointer (some ⟨4, 42, none⟩), .pointer (some ⟨w.heap.size, 0, none⟩), .int .u64 150] 77)).alloc (.cells #[.pointer (some e)] 40)).setCell t (.pointer (some e)) := by
  have h37 := @run_callFunc_extern Tryd.prog 37 _ (fun args => ReflectliteValue.unpack (args.getD 0 (.tuple #[]))) Tryd.func37 (by kernel_rfl) (by kernel_rfl) (by kernel_rfl) (by kernel_rfl)
  have h38 := @run_callFunc_extern Tryd.prog 38 _ (ReflectliteValue.methodAny (ReflectliteValue.valueError "reflectlite.Value.Type" 0) (fun t _ _ _ => ReflectliteType.toType t)) Tryd.func38 (by kernel_rfl) (by kernel_rfl) (by kernel_rfl) (by kernel_rfl)
  have h39 := @run_callFunc_extern Tryd.prog 39 _ (ReflectliteValue.method (ReflectliteValue.valueError "reflectlite.Value.IsNil" 0) ReflectliteValue.isNil) Tryd.func39 (by kernel_rfl) (by kernel_rfl) (by kernel_rfl) (by kernel_rfl)
  have h74 := @run_callFunc_extern Tryd.prog 74 _ (ReflectliteType.abiMethod fun t => do pure (.int .u8 (← Rtype.kind t))) Tryd.func74 (by kernel_rfl) (by kernel_rfl) (by kernel_rfl) (by kernel_rfl)
  have h86 := @run_callFunc_extern Tryd.prog 86 _ (ReflectliteType.method ReflectliteType.elem) Tryd.func86 (by kernel_rfl) (by kernel_rfl) (by kernel_rfl) (by kernel_rfl)
  have h87 := @run_callFunc_extern Tryd.prog 87 _ (ReflectliteType.relation "Implements" ReflectliteType.implements_) Tryd.func87 (by kernel_rfl) (by kernel_rfl) (by kernel_rfl) (by kernel_rfl)
  have h42 := @run_callFunc_extern Tryd.prog 42 _ ReflectliteType.typeOf Tryd.func42 (by kernel_rfl) (by kernel_rfl) (by kernel_rfl) (by kernel_rfl)
  have h84 := @run_callFunc_extern Tryd.prog 84 _ (ReflectliteType.relation "AssignableTo" ReflectliteType.assignableTo) Tryd.func84 (by kernel_rfl) (by kernel_rfl) (by kernel_rfl) (by kernel_rfl)
  have h45 := @run_callFunc_extern Tryd.prog 45 _ (ReflectliteValue.method (ReflectliteValue.valueError "reflectlite.Value.Elem" 0) ReflectliteValue.elem) Tryd.func45 (by kernel_rfl) (by kernel_rfl) (by kernel_rfl) (by kernel_rfl)
  have h46 := @run_callFunc_extern Tryd.prog 46 _ ReflectliteValue.set Tryd.func46 (by kernel_rfl) (by kernel_rfl) (by kernel_rfl) (by kernel_rfl)
  have q0 := typeOf40
  have q1 := methodAssignableTo
  have q2 := assignable40_40
  have q3 := valueOf40
  have q4 := valueOf42
  have q5 := type42
  have q6 := methodKind
  have q7 := methodElem
  have q8 := methodImplements
  have q9 := kind42
  have q10 := kind40
  have q11 := elem42
  have q12 := implements40
  have n8 := isNil42 ⟨w.heap.size, 0, none⟩ t ((w.alloc (.cells #[.pointer (some t)] 42)).alloc (.cells #[.pointer (some ⟨4, 42, none⟩), .pointer (some ⟨w.heap.size, 0, none⟩), .int .u64 150] 77)) (by simp)
  have hlt : 0 < w.heap.size := by
    rcases Nat.eq_zero_or_pos w.heap.size with h0 | h
    · simp [World.cell?, h0] at hg
    · exact h
  have hg2 : ((w.alloc (.cells #[.pointer (some t)] 42)).alloc (.cells #[.pointer (some ⟨4, 42, none⟩), .pointer (some ⟨w.heap.size, 0, none⟩), .int .u64 150] 77)).cell? ⟨0, 0, none⟩ = some (.iface 93 (.agg #[.pointer (some ⟨4, 32, none⟩)])) := by
    rw [World.cell?_alloc_lt _ _ ⟨0, 0, none⟩ (by simp), World.cell?_alloc_lt _ _ ⟨0, 0, none⟩ hlt]; exact hg
  have htl : t.block < w.heap.size := by
    rcases Nat.lt_or_ge t.block w.heap.size with h | h
    · exact h
    · simp [World.cell?, Array.getElem?_eq_none h] at ht0
  have el := elemV42 ⟨w.heap.size, 0, none⟩ t (((w.alloc (.cells #[.pointer (some t)] 42)).alloc (.cells #[.pointer (some ⟨4, 42, none⟩), .pointer (some ⟨w.heap.size, 0, none⟩), .int .u64 150] 77)).alloc (.cells #[.pointer (some ⟨4, 42, none⟩), .pointer (some ⟨w.heap.size, 0, none⟩), .int .u64 150] 77)) (by rw [World.cell?_alloc_lt _ _ ⟨w.heap.size, 0, none⟩ (by simp; omega)]; simp)
  have st := set40 t ⟨w.heap.size + 1 + 1 + 1, 0, none⟩ e old ((((w.alloc (.cells #[.pointer (some t)] 42)).alloc (.cells #[.pointer (some ⟨4, 42, none⟩), .pointer (some ⟨w.heap.size, 0, none⟩), .int .u64 150] 77)).alloc (.cells #[.pointer (some ⟨4, 42, none⟩), .pointer (some ⟨w.heap.size, 0, none⟩), .int .u64 150] 77)).alloc (.cells #[.pointer (some e)] 40))
    (by rw [World.cell?_alloc_at _ _ _ _ (by simp)]; rfl)
    (by rw [World.cell?_alloc_lt _ _ t (by simp; omega), World.cell?_alloc_lt _ _ t (by simp; omega), World.cell?_alloc_lt _ _ t (by simp; omega), World.cell?_alloc_lt _ _ t htl]; exact ht0)
    (by rw [World.frozen?_alloc_old _ _ t (by simp; omega), World.frozen?_alloc_old _ _ t (by simp; omega), World.frozen?_alloc_old _ _ t (by simp; omega), World.frozen?_alloc_old _ _ t (Nat.ne_of_lt htl)]; exact hf0)
  go_enter Tryd.func21, Tryd.ntmps21
  go_wp2
  refine wp_loop_rounds 1 ?_
  rw [rounds_succ]
  go_wp2
  go_ret
  exact ⟨rfl, rfl⟩
end Go.Proofs.YtfmmmojlnfndkaaDoor.As

namespace Go.Proofs.YtfmmmojlnfndkaaDoor.As
open Go.RowKit Go.Extern.Stop Go.Stop Go.Extern

theorem asAs40 (v : Value) (w : World) : (Instr.typeAssert (.iface 40 v) 32 97 true).run Tryd.prog w = .ok (.tuple #[.nilIface, .bool false]) w := run_typeAssert_lacksB Tryd.underlying97 (by kernel_rfl) (by kernel_rfl) v 32 w
theorem asAs50 (v : Value) (w : World) : (Instr.typeAssert (.iface 50 v) 32 97 true).run Tryd.prog w = .ok (.tuple #[.nilIface, .bool false]) w := run_typeAssert_lacksB Tryd.underlying97 (by kernel_rfl) (by kernel_rfl) v 32 w
theorem asAs88 (v : Value) (w : World) : (Instr.typeAssert (.iface 88 v) 32 97 true).run Tryd.prog w = .ok (.tuple #[.nilIface, .bool false]) w := run_typeAssert_lacksB Tryd.underlying97 (by kernel_rfl) (by kernel_rfl) v 32 w
theorem asAs22 (v : Value) (w : World) : (Instr.typeAssert (.iface 22 v) 32 97 true).run Tryd.prog w = .ok (.tuple #[.nilIface, .bool false]) w := run_typeAssert_lacksB Tryd.underlying97 (by kernel_rfl) (by kernel_rfl) v 32 w
theorem asUn40 (v : Value) (w : World) : (Instr.typeAssert (.iface 40 v) 32 100 true).run Tryd.prog w = .ok (.tuple #[.iface 40 v, .bool true]) w := run_typeAssert_hasB Tryd.underlying100 (by kernel_rfl) v 32 w
theorem methodUnwrap40 (v : Value) (w : World) : (Go.method 253 40 v "Unwrap").run Tryd.prog w = .ok (24, v) w := by kernel_rfl
theorem asUn50 (v : Value) (w : World) : (Instr.typeAssert (.iface 50 v) 32 100 true).run Tryd.prog w = .ok (.tuple #[.iface 50 v, .bool true]) w := run_typeAssert_hasB Tryd.underlying100 (by kernel_rfl) v 32 w
theorem methodUnwrap50 (v : Value) (w : World) : (Go.method 253 50 v "Unwrap").run Tryd.prog w = .ok (78, v) w := by kernel_rfl
set_option maxHeartbeats 4000000 in
theorem as_step22 (e : Int) (b : Nat) (t : Addr) (old : Value) (w : World) (hb : w.cell? ⟨b, 2, none⟩ = some (.iface 22 (.int .i64 e))) (hg : w.cell? ⟨0, 0, none⟩ = some (.iface 93 (.agg #[.pointer (some ⟨4, 32, none⟩)]))) (ht0 : w.cell? t = some old) (hf0 : w.frozen? t = false) :
    Calls Tryd.prog 21 #[.iface 40 (.pointer (some ⟨b, 0, none⟩)), .iface 73 (.pointer (some t))] w fun ev w' => ev = .returned (.bool true) ∧ w' = ((((w.alloc (.cells #[.pointer (some t)] 73)).alloc (.cells #[.pointer (some ⟨4, 73, none⟩), .pointer (some ⟨w.heap.size, 0, none⟩), .int .u64 150] 77)).alloc (.cells #[.pointer (some ⟨4, 73, none⟩), .pointer (some ⟨w.heap.size, 0, none⟩), .int .u64 150] 77)).alloc (.cells #[.int .i64 e] 22)).setCell t (.int .i64 e) := by
  have h37 := @run_callFunc_extern Tryd.prog 37 _ (fun args => ReflectliteValue.unpack (args.getD 0 (.tuple #[]))) Tryd.func37 (by kernel_rfl) (by kernel_rfl) (by kernel_rfl) (by kernel_rfl)
  have h38 := @run_callFunc_extern Tryd.prog 38 _ (ReflectliteValue.methodAny (ReflectliteValue.valueError "reflectlite.Value.Type" 0) (fun t _ _ _ => ReflectliteType.toType t)) Tryd.func38 (by kernel_rfl) (by kernel_rfl) (by kernel_rfl) (by kernel_rfl)
  have h39 := @run_callFunc_extern Tryd.prog 39 _ (ReflectliteValue.method (ReflectliteValue.valueError "reflectlite.Value.IsNil" 0) ReflectliteValue.isNil) Tryd.func39 (by kernel_rfl) (by kernel_rfl) (by kernel_rfl) (by kernel_rfl)
  have h74 := @run_callFunc_extern Tryd.prog 74 _ (ReflectliteType.abiMethod fun t => do pure (.int .u8 (← Rtype.kind t))) Tryd.func74 (by kernel_rfl) (by kernel_rfl) (by kernel_rfl) (by kernel_rfl)
  have h86 := @run_callFunc_extern Tryd.prog 86 _ (ReflectliteType.method ReflectliteType.elem) Tryd.func86 (by kernel_rfl) (by kernel_rfl) (by kernel_rfl) (by kernel_rfl)
  have h87 := @run_callFunc_extern Tryd.prog 87 _ (ReflectliteType.relation "Implements" ReflectliteType.implements_) Tryd.func87 (by kernel_rfl) (by kernel_rfl) (by kernel_rfl) (by kernel_rfl)
  have h42 := @run_callFunc_extern Tryd.prog 42 _ ReflectliteType.typeOf Tryd.func42 (by kernel_rfl) (by kernel_rfl) (by kernel_rfl) (by kernel_rfl)
  have h84 := @run_callFunc_extern Tryd.prog 84 _ (ReflectliteType.relation "AssignableTo" ReflectliteType.assignableTo) Tryd.func84 (by kernel_rfl) (by kernel_rfl) (by kernel_rfl) (by kernel_rfl)
  have h45 := @run_callFunc_extern Tryd.prog 45 _ (ReflectliteValue.method (ReflectliteValue.valueError "reflectlite.Value.Elem" 0) ReflectliteValue.elem) Tryd.func45 (by kernel_rfl) (by kernel_rfl) (by kernel_rfl) (by kernel_rfl)
  have h46 := @run_callFunc_extern Tryd.prog 46 _ ReflectliteValue.set Tryd.func46 (by kernel_rfl) (by kernel_rfl) (by kernel_rfl) (by kernel_rfl)
  have q0 := typeOf22
  have q1 := methodAssignableTo
  have q2 := assignable22_22
  have q3 := valueOf22
  have q4 := valueOf73
  have q5 := type73
  have q6 := methodKind
  have q7 := methodElem
  have q8 := methodImplements
  have q9 := kind73
  have q10 := kind22
  have q11 := elem73
  have q12 := implements22
  have q13 := typeOf40
  have q14 := assignable40_22
  have q15 := asAs40
  have q16 := asUn40
  have q17 := methodUnwrap40
  have hbl : b < w.heap.size := by
    rcases Nat.lt_or_ge b w.heap.size with h | h
    · exact h
    · simp [World.cell?, Array.getElem?_eq_none h] at hb
  have hb3 : (((w.alloc (.cells #[.pointer (some t)] 73)).alloc (.cells #[.pointer (some ⟨4, 73, none⟩), .pointer (some ⟨w.heap.size, 0, none⟩), .int .u64 150] 77)).alloc (.cells #[.pointer (some ⟨4, 73, none⟩), .pointer (some ⟨w.heap.size, 0, none⟩), .int .u64 150] 77)).cell? ⟨b, 2, none⟩ = some (.iface 22 (.int .i64 e)) := by
    rw [World.cell?_alloc_lt _ _ ⟨b, 2, none⟩ (by simp; omega), World.cell?_alloc_lt _ _ ⟨b, 2, none⟩ (by simp; omega), World.cell?_alloc_lt _ _ ⟨b, 2, none⟩ hbl]; exact hb
  have n8 := isNil73 ⟨w.heap.size, 0, none⟩ t ((w.alloc (.cells #[.pointer (some t)] 73)).alloc (.cells #[.pointer (some ⟨4, 73, none⟩), .pointer (some ⟨w.heap.size, 0, none⟩), .int .u64 150] 77)) (by simp)
  have hlt : 0 < w.heap.size := by
    rcases Nat.eq_zero_or_pos w.heap.size with h0 | h
    · simp [World.cell?, h0] at hg
    · exact h
  have hg2 : ((w.alloc (.cells #[.pointer (some t)] 73)).alloc (.cells #[.pointer (some ⟨4, 73, none⟩), .pointer (some ⟨w.heap.size, 0, none⟩), .int .u64 150] 77)).cell? ⟨0, 0, none⟩ = some (.iface 93 (.agg #[.pointer (some ⟨4, 32, none⟩)])) := by
    rw [World.cell?_alloc_lt _ _ ⟨0, 0, none⟩ (by simp), World.cell?_alloc_lt _ _ ⟨0, 0, none⟩ hlt]; exact hg
  have htl : t.block < w.heap.size := by
    rcases Nat.lt_or_ge t.block w.heap.size with h | h
    · exact h
    · simp [World.cell?, Array.getElem?_eq_none h] at ht0
  have el := elemV73 ⟨w.heap.size, 0, none⟩ t (((w.alloc (.cells #[.pointer (some t)] 73)).alloc (.cells #[.pointer (some ⟨4, 73, none⟩), .pointer (some ⟨w.heap.size, 0, none⟩), .int .u64 150] 77)).alloc (.cells #[.pointer (some ⟨4, 73, none⟩), .pointer (some ⟨w.heap.size, 0, none⟩), .int .u64 150] 77)) (by rw [World.cell?_alloc_lt _ _ ⟨w.heap.size, 0, none⟩ (by simp; omega)]; simp)
  have st := set22 t ⟨w.heap.size + 1 + 1 + 1, 0, none⟩ e old ((((w.alloc (.cells #[.pointer (some t)] 73)).alloc (.cells #[.pointer (some ⟨4, 73, none⟩), .pointer (some ⟨w.heap.size, 0, none⟩), .int .u64 150] 77)).alloc (.cells #[.pointer (some ⟨4, 73, none⟩), .pointer (some ⟨w.heap.size, 0, none⟩), .int .u64 150] 77)).alloc (.cells #[.int .i64 e] 22))
    (by rw [World.cell?_alloc_at _ _ _ _ (by simp)]; rfl)
    (by rw [World.cell?_alloc_lt _ _ t (by simp; omega), World.cell?_alloc_lt _ _ t (by simp; omega), World.cell?_alloc_lt _ _ t (by simp; omega), World.cell?_alloc_lt _ _ t htl]; exact ht0)
    (by rw [World.frozen?_alloc_old _ _ t (by simp; omega), World.frozen?_alloc_old _ _ t (by simp; omega), World.frozen?_alloc_old _ _ t (by simp; omega), World.frozen?_alloc_old _ _ t (Nat.ne_of_lt htl)]; exact hf0)
  go_enter Tryd.func21, Tryd.ntmps21
  go_wp2
  refine wp_loop_rounds 2 ?_
  rw [rounds_succ]
  go_wp2
  all_goals (try (rw [rounds_succ]; go_wp2))
  go_ret
  exact ⟨rfl, rfl⟩
end Go.Proofs.YtfmmmojlnfndkaaDoor.As

namespace Go.Proofs.YtfmmmojlnfndkaaDoor.As
open Go.RowKit Go.Proofs.YtfmmmojlnfndkaaDoorW.PrintWords Go.Proofs.YtfmmmojlnfndkaaDoorW.PrintLast Go.Extern.Stop Go.Stop Go.Extern
theorem heap_new (w : World) (o : Obj) : (w.alloc o).heap[w.heap.size]? = some o := by
  show (w.heap.push o)[w.heap.size]? = _
  simp
theorem heap_old {w : World} {b : Nat} {x : Obj} (o : Obj) (h : w.heap[b]? = some x) : (w.alloc o).heap[b]? = some x := by
  have hb := (Array.getElem?_eq_some_iff.1 h).1
  show (w.heap.push o)[b]? = _
  rw [Array.getElem?_push_lt hb, ← h, Array.getElem?_eq_getElem hb]
theorem frz (w : World) (e : Int) : (w.alloc (.cells #[.int .i64 e] 22)).frozen? ⟨w.heap.size, 0, none⟩ = false := by
  have h := heap_new w (.cells #[.int .i64 e] 22)
  simp only [World.frozen?, h]
  rfl
/-- How errors.As ends where it finds the errno e, the target being the block b. -/
def AsPost (e : Int) (b : Nat) (w0 : World) (ev : Ending) (w' : World) : Prop := ev = .returned (.bool true) ∧ w'.cell? ⟨b, 0, none⟩ = some (.int .i64 e) ∧ Below w0.heap.size w0 w'
theorem post_of (e : Int) (w : World) (o1 o2 o3 o4 : Obj) : AsPost e w.heap.size w (.returned (.bool true)) ((((((w.alloc (.cells #[.int .i64 0] 22)).alloc o1).alloc o2).alloc o3).alloc o4).setCell ⟨w.heap.size, 0, none⟩ (.int .i64 e)) := by
  refine ⟨rfl, ?_, ?_⟩
  · have h := one_setCell (u := .int .i64 e) (heap_old o4 (heap_old o3 (heap_old o2 (heap_old o1 (heap_new w (.cells #[.int .i64 0] 22))))))
    simp only [World.cell?, h]
    rfl
  · refine Below.setCell (p := ⟨w.heap.size, 0, none⟩) ?_ (Nat.le_refl w.heap.size) _
    repeat (refine Below.alloc ?_ (by simp <;> omega) _)
    exact Below.refl _ _
theorem ofA (e : Int) (w : World) (hg : w.cell? ⟨0, 0, none⟩ = some (.iface 93 (.agg #[.pointer (some ⟨4, 32, none⟩)]))) :
    Calls Tryd.prog 21 #[.iface 22 (.int .i64 e), .iface 73 (.pointer (some ⟨w.heap.size, 0, none⟩))] (w.alloc (.cells #[.int .i64 0] 22)) (AsPost e w.heap.size w) := by
  have hlt : 0 < w.heap.size := by
    rcases Nat.eq_zero_or_pos w.heap.size with h0 | h
    · simp [World.cell?, h0] at hg
    · exact h
  have h0 : (w.alloc (.cells #[.int .i64 0] 22)).cell? ⟨0, 0, none⟩ = some (.iface 93 (.agg #[.pointer (some ⟨4, 32, none⟩)])) := by
    rw [World.cell?_alloc_lt _ _ ⟨0, 0, none⟩ hlt]; exact hg
  have h1 : (w.alloc (.cells #[.int .i64 0] 22)).cell? ⟨w.heap.size, 0, none⟩ = some (.int .i64 0) := by simp
  refine (as_hit22 e ⟨w.heap.size, 0, none⟩ (.int .i64 0) (w.alloc (.cells #[.int .i64 0] 22)) h0 h1 (frz w 0)).mono ?_
  rintro ev w' ⟨rfl, rfl⟩
  exact post_of e w _ _ _ _
/-- fault.Of. -/
theorem ofA_calls (e : Int) (w : World) (hg : w.cell? ⟨0, 0, none⟩ = some (.iface 93 (.agg #[.pointer (some ⟨4, 32, none⟩)]))) :
    Calls Tryd.prog 18 #[.iface 22 (.int .i64 e)] w fun ev w' => ev = .returned (.int .i64 e) ∧ Below w.heap.size w w' := by
  have hA := ofA e w hg
  clear hg
  go_enter Tryd.func18, Tryd.ntmps18
  go_wp2_with (first | ((with_reducible refine gate_callee (f := 21) rfl ?_); refine goesL_ (some 8) rfl rfl Tryd.func21 (by kernel_rfl) rfl #[.iface 22 (.int .i64 e), .iface 73 (.pointer (some ⟨w.heap.size, 0, none⟩))] rfl (by (try simp only [List.map_toArray, List.map_cons, List.map_nil]); first | done | rfl) ?_; (with_reducible refine (hA).mono ?_); rintro e' w' ⟨rfl, hc, hb⟩; refine ⟨_, rfl, ?_⟩))
  all_goals (try go_wp2)
  all_goals (try (go_ret; exact ⟨rfl, hb⟩))
theorem ofB (e : Int) (b : Nat) (w : World) (hb : w.cell? ⟨b, 2, none⟩ = some (.iface 22 (.int .i64 e))) (hg : w.cell? ⟨0, 0, none⟩ = some (.iface 93 (.agg #[.pointer (some ⟨4, 32, none⟩)]))) :
    Calls Tryd.prog 21 #[.iface 40 (.pointer (some ⟨b, 0, none⟩)), .iface 73 (.pointer (some ⟨w.heap.size, 0, none⟩))] (w.alloc (.cells #[.int .i64 0] 22)) (AsPost e w.heap.size w) := by
  have hlt : 0 < w.heap.size := by
    rcases Nat.eq_zero_or_pos w.heap.size with h0 | h
    · simp [World.cell?, h0] at hg
    · exact h
  have hbl : b < w.heap.size := by
    rcases Nat.lt_or_ge b w.heap.size with h | h
    · exact h
    · simp [World.cell?, Array.getElem?_eq_none h] at hb
  have hb1 : (w.alloc (.cells #[.int .i64 0] 22)).cell? ⟨b, 2, none⟩ = some (.iface 22 (.int .i64 e)) := by
    rw [World.cell?_alloc_lt _ _ ⟨b, 2, none⟩ hbl]; exact hb
  have h0 : (w.alloc (.cells #[.int .i64 0] 22)).cell? ⟨0, 0, none⟩ = some (.iface 93 (.agg #[.pointer (some ⟨4, 32, none⟩)])) := by
    rw [World.cell?_alloc_lt _ _ ⟨0, 0, none⟩ hlt]; exact hg
  have h1 : (w.alloc (.cells #[.int .i64 0] 22)).cell? ⟨w.heap.size, 0, none⟩ = some (.int .i64 0) := by simp
  refine (as_step22 e b ⟨w.heap.size, 0, none⟩ (.int .i64 0) (w.alloc (.cells #[.int .i64 0] 22)) hb1 h0 h1 (frz w 0)).mono ?_
  rintro ev w' ⟨rfl, rfl⟩
  exact post_of e w _ _ _ _
/-- fault.Of. -/
theorem ofB_calls (e : Int) (b : Nat) (w : World) (hb : w.cell? ⟨b, 2, none⟩ = some (.iface 22 (.int .i64 e))) (hg : w.cell? ⟨0, 0, none⟩ = some (.iface 93 (.agg #[.pointer (some ⟨4, 32, none⟩)]))) :
    Calls Tryd.prog 18 #[.iface 40 (.pointer (some ⟨b, 0, none⟩))] w fun ev w' => ev = .returned (.int .i64 e) ∧ Below w.heap.size w w' := by
  have hA := ofB e b w hb hg
  clear hg hb
  go_enter Tryd.func18, Tryd.ntmps18
  go_wp2_with (first | ((with_reducible refine gate_callee (f := 21) rfl ?_); refine goesL_ (some 8) rfl rfl Tryd.func21 (by kernel_rfl) rfl #[.iface 40 (.pointer (some ⟨b, 0, none⟩)), .iface 73 (.pointer (some ⟨w.heap.size, 0, none⟩))] rfl (by (try simp only [List.map_toArray, List.map_cons, List.map_nil]); first | done | rfl) ?_; (with_reducible refine (hA).mono ?_); rintro e' w' ⟨rfl, hc, hb⟩; refine ⟨_, rfl, ?_⟩))
  all_goals (try go_wp2)
  all_goals (try (go_ret; exact ⟨rfl, hb⟩))
end Go.Proofs.YtfmmmojlnfndkaaDoor.As

namespace Go.Proofs.YtfmmmojlnfndkaaDoor.As
open Go.RowKit Go.Proofs.YtfmmmojlnfndkaaDoorW.PrintWords Go.Proofs.YtfmmmojlnfndkaaDoorW.PrintLast Go.Extern.Stop Go.Stop Go.Extern

set_option maxRecDepth 20000 in
theorem wrapA (op what : ByteArray) (e : Int) (w : World) (he : e ≠ 0) (hg : w.cell? ⟨0, 0, none⟩ = some (.iface 93 (.agg #[.pointer (some ⟨4, 32, none⟩)]))) :
    Calls Tryd.prog 25 #[.string op, .string what, .iface 22 (.int .i64 e)] w fun ev w' => ∃ b, ev = .returned (.iface 40 (.pointer (some ⟨b, 0, none⟩))) ∧ w.heap.size ≤ b ∧ w'.heap[b]? = some (.cells #[.string op, .string what, .iface 22 (.int .i64 e)] 46) ∧ Below w.heap.size w w' := by
  have hA := ofA_calls e w hg
  have h0 : (e == 0) = false := by simpa using he
  clear hg he
  go_enter Tryd.func25, Tryd.ntmps25
  go_wp2_with (first | ((with_reducible refine gate_callee (f := 18) rfl ?_); refine gate_guard (by rfl) ?_; refine goesL_ (some 11) rfl rfl Tryd.func18 (by kernel_rfl) rfl #[.iface 22 (.int .i64 e)] rfl (by (try simp only [List.map_toArray, List.map_cons, List.map_nil]); first | done | rfl) ?_; (with_reducible refine (hA).mono ?_); rintro e' w' ⟨rfl, hb⟩; refine ⟨_, rfl, ?_⟩))
  all_goals (try go_wp2)
  all_goals (try go_ret)
  all_goals (refine ⟨_, rfl, hb.size, heap_new _ _, Below.alloc hb hb.size _⟩)
end Go.Proofs.YtfmmmojlnfndkaaDoor.As

namespace Go.Proofs.YtfmmmojlnfndkaaDoor.As
open Go.RowKit Go.Proofs.YtfmmmojlnfndkaaDoorW.PrintWords Go.Proofs.YtfmmmojlnfndkaaDoorW.PrintLast Go.Extern.Stop Go.Stop Go.Extern

set_option maxRecDepth 20000 in
theorem wrapOK (op what : ByteArray) (w : World) (hg : w.cell? ⟨0, 0, none⟩ = some (.iface 93 (.agg #[.pointer (some ⟨4, 32, none⟩)]))) :
    Calls Tryd.prog 25 #[.string op, .string what, .iface 22 (.int .i64 0)] w fun ev w' => ev = .returned .nilIface ∧ Below w.heap.size w w' := by
  have hA := ofA_calls 0 w hg
  clear hg
  go_enter Tryd.func25, Tryd.ntmps25
  go_wp2_with (first | ((with_reducible refine gate_callee (f := 18) rfl ?_); refine gate_guard (by rfl) ?_; refine goesL_ (some 11) rfl rfl Tryd.func18 (by kernel_rfl) rfl #[.iface 22 (.int .i64 0)] rfl (by (try simp only [List.map_toArray, List.map_cons, List.map_nil]); first | done | rfl) ?_; (with_reducible refine (hA).mono ?_); rintro e' w' ⟨rfl, hb⟩; refine ⟨_, rfl, ?_⟩))
  all_goals (try go_wp2)
  all_goals (try go_ret)
  all_goals (exact ⟨rfl, hb⟩)
set_option maxRecDepth 20000 in
theorem wrapNil (op what : ByteArray) (w : World) :
    Calls Tryd.prog 25 #[.string op, .string what, .nilIface] w fun ev w' => ev = .returned .nilIface ∧ w' = w := by
  go_enter Tryd.func25, Tryd.ntmps25
  go_wp2
  go_ret
  exact ⟨rfl, rfl⟩
theorem conv1 (w : World) (x : UInt8) (t : TypeId) (cap : Nat) : (convert 91 9 (.slice (some ⟨w.heap.size, 0, none⟩) 1 cap)).run Tryd.prog (w.alloc (.cells #[.int .u8 (x.toNat : Int)] t)) = .ok (.string ⟨#[x]⟩) (w.alloc (.cells #[.int .u8 (x.toNat : Int)] t)) := by
  refine run_convert_bytes_back (P := Tryd.prog) _ 91 9 5 ⟨w.heap.size, 0, none⟩ cap [x] Tryd.underlying91 Tryd.underlying5 Tryd.underlying9 fun j hj => ?_
  obtain rfl : j = 0 := by simp at hj; omega
  have h := heap_new w (.cells #[.int .u8 (x.toNat : Int)] t)
  simp only [World.cell?, Addr.add, ↓reduceIte, h]
  rfl
theorem methodError22 (v : Value) (w : World) : (Go.method 253 22 v "Error").run Tryd.prog w = .ok (41, v) w := by kernel_rfl
set_option maxRecDepth 20000 in
theorem text22 (b : Nat) (w : World) (h0 : w.cell? ⟨b, 0, none⟩ = some (.string ⟨#[111, 112, 101, 110]⟩)) (h1 : w.cell? ⟨b, 1, none⟩ = some (.string ⟨#[47, 97]⟩)) (h2 : w.cell? ⟨b, 2, none⟩ = some (.iface 22 (.int .i64 2))) :
    Calls Tryd.prog 22 #[.pointer (some ⟨b, 0, none⟩)] w fun ev w' => ev = .returned (.string ⟨#[111, 112, 101, 110, 32, 47, 97, 32, 58, 32, 112, 117, 109, 105, 99, 101, 32, 101, 114, 114, 111, 114, 32, 50]⟩) ∧ Below w.heap.size w w' := by
  have hc := conv1 w 50
  have h50 : ((50 : UInt8).toNat : Int) = 50 := rfl
  rw [h50] at hc
  have hm := methodError22
  go_enter Tryd.func22, Tryd.ntmps22
  go_wp2
  go_ret
  exact ⟨rfl, Below.alloc (Below.refl _ _) (Nat.le_refl _) _⟩
end Go.Proofs.YtfmmmojlnfndkaaDoor.As

namespace Go.Proofs.YtfmmmojlnfndkaaDoor.As
open Go.RowKit Go.Proofs.YtfmmmojlnfndkaaDoorW.PrintWords Go.Proofs.YtfmmmojlnfndkaaDoorW.PrintLast Go.Extern.Stop Go.Stop Go.Extern
theorem isTypeOf22 (v : Value) (w : World) : (Extern.ReflectliteType.typeOf #[.iface 22 v]).run Tryd.prog w = .ok (.iface 93 (.agg #[.pointer (some ⟨4, 22, none⟩)])) w := by kernel_rfl
theorem isComparable22 (w : World) : (((ReflectliteType.method fun t => do Rtype.noPackHeld "Comparable" t; pure (.bool (← typeInfo t).comparable))) #[.agg #[.pointer (some ⟨4, 22, none⟩)]]).run Tryd.prog w = .ok (.bool true) w := by kernel_rfl
theorem call85 (w : World) : (callFunc 85 #[.agg #[.pointer (some ⟨4, 22, none⟩)]]).run Tryd.prog w = .ok (.value (.bool true)) w := by
  rw [@run_callFunc_extern Tryd.prog 85 _ (ReflectliteType.method fun t => do Rtype.noPackHeld "Comparable" t; pure (.bool (← typeInfo t).comparable)) Tryd.func85 (by kernel_rfl) (by kernel_rfl) (by kernel_rfl) (by kernel_rfl), isComparable22]
  rfl
theorem isMethodComparable (v : Value) (w : World) : (Go.method 253 93 v "Comparable").run Tryd.prog w = .ok (85, v) w := by kernel_rfl
theorem isComp22 : (Tryd.prog.info? 22).map (·.comparable) = some true := by kernel_rfl
theorem isNo22 (v : Value) (xT : TypeId) (w : World) : (Instr.typeAssert (.iface 22 v) xT 104 true).run Tryd.prog w = .ok (.tuple #[.nilIface, .bool false]) w := run_typeAssert_lacksB Tryd.underlying104 (by kernel_rfl) (by kernel_rfl) v xT w
theorem isNo40 (v : Value) (xT : TypeId) (w : World) : (Instr.typeAssert (.iface 40 v) xT 104 true).run Tryd.prog w = .ok (.tuple #[.nilIface, .bool false]) w := run_typeAssert_lacksB Tryd.underlying104 (by kernel_rfl) (by kernel_rfl) v xT w
theorem isNo50 (v : Value) (xT : TypeId) (w : World) : (Instr.typeAssert (.iface 50 v) xT 104 true).run Tryd.prog w = .ok (.tuple #[.nilIface, .bool false]) w := run_typeAssert_lacksB Tryd.underlying104 (by kernel_rfl) (by kernel_rfl) v xT w
theorem isUn22 (v : Value) (xT : TypeId) (w : World) : (Instr.typeAssert (.iface 22 v) xT 100 true).run Tryd.prog w = .ok (.tuple #[.nilIface, .bool false]) w := run_typeAssert_lacksB Tryd.underlying100 (by kernel_rfl) (by kernel_rfl) v xT w
theorem isUns22 (v : Value) (xT : TypeId) (w : World) : (Instr.typeAssert (.iface 22 v) xT 101 true).run Tryd.prog w = .ok (.tuple #[.nilIface, .bool false]) w := run_typeAssert_lacksB Tryd.underlying101 (by kernel_rfl) (by kernel_rfl) v xT w
theorem eql22 (e f : Int) (w : World) : (binOp .eql 32 (.iface 22 (.int .i64 e)) (.iface 22 (.int .i64 f))).run Tryd.prog w = .ok (.bool (e == f)) w := Lib.run_eql_iface_int w e f Tryd.underlying32 isComp22 Tryd.underlying22
theorem eql40_22 (p : Value) (f : Int) (w : World) : (binOp .eql 32 (.iface 40 p) (.iface 22 (.int .i64 f))).run Tryd.prog w = .ok (.bool false) w := run_eql_iface_types 40 22 p (.int .i64 f) Tryd.underlying32 (by decide) w
theorem eql50_22 (p : Value) (f : Int) (w : World) : (binOp .eql 32 (.iface 50 p) (.iface 22 (.int .i64 f))).run Tryd.prog w = .ok (.bool false) w := run_eql_iface_types 50 22 p (.int .i64 f) Tryd.underlying32 (by decide) w
set_option maxRecDepth 20000 in
/-- errors.Is of a *fault.Error that holds the errno e, at the errno e. -/
theorem isB (e : Int) (b : Nat) (w : World) (hb : w.cell? ⟨b, 2, none⟩ = some (.iface 22 (.int .i64 e))) :
    Calls Tryd.prog 26 #[.iface 40 (.pointer (some ⟨b, 0, none⟩)), .iface 22 (.int .i64 e)] w fun ev w' => ev = .returned (.bool true) ∧ w' = w := by
  have h42 := @run_callFunc_extern Tryd.prog 42 _ ReflectliteType.typeOf Tryd.func42 (by kernel_rfl) (by kernel_rfl) (by kernel_rfl) (by kernel_rfl)
  have h85 := call85
  have q0 := isTypeOf22
  have q2 := isMethodComparable
  have q3 := isNo40
  have q4 := asUn40
  have q5 := methodUnwrap40
  have q6 := eql22 e e w
  have q7 := eql40_22 (.pointer (some ⟨b, 0, none⟩)) e w
  rw [show (e == e) = true from by simp] at q6
  go_enter Tryd.func26, Tryd.ntmps26
  go_wp2
  refine wp_loop_rounds 2 ?_
  rw [rounds_succ]
  go_wp2
  all_goals (try (rw [rounds_succ]; go_wp2))
  go_ret
  exact ⟨rfl, rfl⟩
end Go.Proofs.YtfmmmojlnfndkaaDoor.As

namespace Go.Proofs.YtfmmmojlnfndkaaDoor.As
open Go.RowKit Go.Proofs.YtfmmmojlnfndkaaDoorW.PrintWords Go.Proofs.YtfmmmojlnfndkaaDoorW.PrintLast Go.Extern.Stop Go.Stop Go.Extern
def Laid (w : World) : Prop := w.cell? ⟨0, 0, none⟩ = some (.iface 93 (.agg #[.pointer (some ⟨4, 32, none⟩)])) ∧ Lib.TabIs Tryd.prog w "internal/strconv.uint64pow10" .u64 Lib.pow10Tab
theorem Laid.et {w : World} (h : Laid w) : w.cell? ⟨0, 0, none⟩ = some (.iface 93 (.agg #[.pointer (some ⟨4, 32, none⟩)])) := h.1
theorem cell_below {w w' : World} (hb : Below w.heap.size w w') {a : Addr} {v : Value} (h : w.cell? a = some v) : w'.cell? a = some v := by
  have hl := World.block_lt_of_cell? w a h
  have hk := hb.block a.block hl
  simp only [World.cell?, hk] at h ⊢
  exact h
theorem heap_below {w w' : World} (hb : Below w.heap.size w w') {b : Nat} {o : Obj} (h : w.heap[b]? = some o) : w'.heap[b]? = some o := by
  have hl := (Array.getElem?_eq_some_iff.1 h).1
  rw [hb.block b hl]; exact h
theorem pow10_global : Tryd.prog.globalNamed "internal/strconv.uint64pow10" = some 1 := by kernel_rfl
theorem tab_below {w w' : World} {zs : List Int} (h : Lib.TabIs Tryd.prog w "internal/strconv.uint64pow10" .u64 zs) (hb : Below w.heap.size w w') : Lib.TabIs Tryd.prog w' "internal/strconv.uint64pow10" .u64 zs := by
  unfold Lib.TabIs at h ⊢
  unfold World.var? at h ⊢
  rw [pow10_global, Option.bind_some] at h ⊢
  cases hc : w.heap[1]? with
  | none => rw [hc] at h; cases h
  | some o => rw [hc] at h; rw [heap_below hb hc]; exact h
theorem Laid.on {w w' : World} (h : Laid w) (hb : Below w.heap.size w w') : Laid w' := ⟨cell_below hb h.1, tab_below h.2 hb⟩
end Go.Proofs.YtfmmmojlnfndkaaDoor.As

namespace Go.Proofs.YtfmmmojlnfndkaaDoor
open Go.Shelf
def Tryd.laysItoa_ren : Go.Shelf.Ren := ⟨fun | 171 => 34 | 243 => 44 | 246 => 48 | 283 => 49 | 284 => 50 | 285 => 51 | 286 => 52 | 129 => 54 | 317 => 53 | 318 => 55 | 319 => 56 | 320 => 57 | 337 => 58 | 338 => 59 | n => n, fun | 3 => 3 | 9 => 9 | 2 => 2 | 4 => 4 | 171 => 108 | 0 => 0 | 53 => 109 | 37 => 91 | 5 => 5 | 173 => 112 | 212 => 116 | 51 => 117 | 20 => 20 | 213 => 118 | 46 => 120 | 232 => 123 | 233 => 124 | n => n, fun | 17 => 1 | 18 => 2 | 19 => 3 | n => n⟩
theorem Tryd.laysItoa : Go.Proofs.LaysM.n171 Tryd.prog Tryd.laysItoa_ren := {
  mixed := by kernel_rfl
  f129 := Tryd.func54.trans (congrArg some (by kernel_rfl))
  f171 := Tryd.func34.trans (congrArg some (by kernel_rfl))
  f243 := Tryd.func44.trans (congrArg some (by kernel_rfl))
  f246 := Tryd.func48.trans (congrArg some (by kernel_rfl))
  f283 := Tryd.func49.trans (congrArg some (by kernel_rfl))
  f284 := Tryd.func50.trans (congrArg some (by kernel_rfl))
  f285 := Tryd.func51.trans (congrArg some (by kernel_rfl))
  f286 := Tryd.func52.trans (congrArg some (by kernel_rfl))
  f317 := Tryd.func53.trans (congrArg some (by kernel_rfl))
  f318 := Tryd.func55.trans (congrArg some (by kernel_rfl))
  f319 := Tryd.func56.trans (congrArg some (by kernel_rfl))
  f320 := Tryd.func57.trans (congrArg some (by kernel_rfl))
  f337 := Tryd.func58.trans (congrArg some (by kernel_rfl))
  f338 := Tryd.func59.trans (congrArg some (by kernel_rfl))
  t0 := Tryd.underlying0
  a0 := Tryd.isAgg0
  z0 := Tryd.sizeOf0
  v0 := Tryd.zeroValue0
  t2 := Tryd.underlying2
  a2 := Tryd.isAgg2
  z2 := Tryd.sizeOf2
  v2 := Tryd.zeroValue2
  t3 := Tryd.underlying3
  a3 := Tryd.isAgg3
  z3 := Tryd.sizeOf3
  v3 := Tryd.zeroValue3
  t4 := Tryd.underlying4
  a4 := Tryd.isAgg4
  z4 := Tryd.sizeOf4
  v4 := Tryd.zeroValue4
  t5 := Tryd.underlying5
  a5 := Tryd.isAgg5
  z5 := Tryd.sizeOf5
  v5 := Tryd.zeroValue5
  t9 := Tryd.underlying9
  a9 := Tryd.isAgg9
  z9 := Tryd.sizeOf9
  v9 := Tryd.zeroValue9
  t20 := Tryd.underlying20
  a20 := Tryd.isAgg20
  z20 := Tryd.sizeOf20
  v20 := Tryd.zeroValue20
  t37 := Tryd.underlying91
  a37 := Tryd.isAgg91
  z37 := Tryd.sizeOf91
  v37 := Tryd.zeroValue91
  t46 := Tryd.underlying120
  a46 := Tryd.isAgg120
  z46 := Tryd.sizeOf120
  v46 := Tryd.zeroValue120
  t51 := Tryd.underlying117
  a51 := Tryd.isAgg117
  z51 := Tryd.sizeOf117
  v51 := Tryd.zeroValue117
  t53 := Tryd.underlying109
  a53 := Tryd.isAgg109
  z53 := Tryd.sizeOf109
  v53 := Tryd.zeroValue109
  t171 := Tryd.underlying108
  a171 := Tryd.isAgg108
  z171 := Tryd.sizeOf108
  v171 := Tryd.zeroValue108
  t173 := Tryd.underlying112
  a173 := Tryd.isAgg112
  z173 := Tryd.sizeOf112
  v173 := Tryd.zeroValue112
  t212 := Tryd.underlying116
  a212 := Tryd.isAgg116
  z212 := Tryd.sizeOf116
  v212 := Tryd.zeroValue116
  t213 := Tryd.underlying118
  a213 := Tryd.isAgg118
  z213 := Tryd.sizeOf118
  t232 := Tryd.underlying123
  a232 := Tryd.isAgg123
  z232 := Tryd.sizeOf123
  v232 := Tryd.zeroValue123
  t233 := Tryd.underlying124
  a233 := Tryd.isAgg124
  z233 := Tryd.sizeOf124
  v233 := Tryd.zeroValue124
  g17 := by kernel_rfl
  g18 := by kernel_rfl
  g19 := by kernel_rfl
  i0 := by kernel_rfl
  i2 := by kernel_rfl
  i3 := by kernel_rfl
  i4 := by kernel_rfl
  i5 := by kernel_rfl
  i9 := by kernel_rfl
  i20 := by kernel_rfl
  i37 := by kernel_rfl
  i46 := by kernel_rfl
  i51 := by kernel_rfl
  i53 := by kernel_rfl
  i171 := by kernel_rfl
  i173 := by kernel_rfl
  i212 := by kernel_rfl
  i232 := by kernel_rfl
  i233 := by kernel_rfl
  m17 := by kernel_rfl
  m18 := by kernel_rfl
  m19 := by kernel_rfl }
end Go.Proofs.YtfmmmojlnfndkaaDoor
namespace Go.Proofs.YtfmmmojlnfndkaaDoor.Q
open Go.RowKit Go.Proofs.YtfmmmojlnfndkaaDoorW.PrintWords Go.Proofs.YtfmmmojlnfndkaaDoorW.PrintLast
def strconv_Itoa.f (a0 : Int) : Option ByteArray := if -9223372036854775808 ≤ a0 ∧ a0 ≤ 9223372036854775807 then some ⟨(Lib.itoa a0).toArray⟩ else none
theorem strconv_Itoa.calls (a0 : Int) (r : ByteArray) (w : World) (hL : As.Laid w) (h : strconv_Itoa.f a0 = some r) : Calls Tryd.prog 34 #[.int .i64 a0] w fun e w' => e = .returned (.string r) ∧ Below w.heap.size w w' := by
  unfold strconv_Itoa.f at h
  split at h
  · rename_i hh
    obtain rfl := Option.some.inj h
    refine (Any.strconv_Itoa Tryd.laysItoa a0 hh.1 hh.2 w hL.2).mono ?_
    rintro e w' ⟨rfl, k, os, rfl⟩
    exact ⟨rfl, rfl, rfl, rfl, by show w.heap.size ≤ (w.heap ++ os).size; rw [Array.size_append]; omega, fun j hj => by show (w.heap ++ os)[j]? = w.heap[j]?; rw [Array.getElem?_append_left hj]⟩
  · cases h
end Go.Proofs.YtfmmmojlnfndkaaDoor.Q

namespace Go.Proofs.YtfmmmojlnfndkaaDoor.Q
open Go.RowKit Go.Proofs.YtfmmmojlnfndkaaDoorW.PrintWords Go.Proofs.YtfmmmojlnfndkaaDoorW.PrintLast Go.Proofs.YtfmmmojlnfndkaaDoorW.PrintMore
attribute [local go_sem] max2_int min2_int max_two min_two max_three min_three max_four min_four   -- for this text's walks alone
set_option linter.unusedVariables false
set_option linter.unusedSimpArgs false

/-! ### fault_Name: function 14 -/
def fault_Name.l0 : Nat → Int → List (S66) → Int → Int → Option (ByteArray)
  | 0, _, _, _, _ => none
  | k + 1, x0, x5, x6, x7 => if x7 < x6 then (if 0 ≤ x7 then (if x7 < (x5.length : Int) then (if ((rd_T66 x5 x7).f0) = x0 then (some ((rd_T66 x5 x7).f1)) else (fault_Name.l0 k x0 x5 x6 (wrap64 (x7 + 1)))) else (none)) else (none)) else ((strconv_Itoa.f x0).bind fun t116 => (if 1 + t116.size ≤ 9223372036854775807 then (some ((⟨#[69]⟩ : ByteArray) ++ t116)) else (none)))
def fault_Name.f (k : Nat) (a0 : Int) : Option (ByteArray) := (fault_all.f).bind fun t111 => (fault_Name.l0 k a0 t111 (t111.length : Int) 0)
theorem fault_Name.mono_l : ∀ k, (∀ y0 y1 y2 y3, LeO (fault_Name.l0 k y0 y1 y2 y3) (fault_Name.l0 (k + 1) y0 y1 y2 y3))
  | 0 => fun _ _ _ _ r h => by simp [fault_Name.l0] at h
  | k + 1 => by
    have ih0 := fault_Name.mono_l k
    · intro y0 y1 y2 y3
      unfold fault_Name.l0
      repeat' first
      | (with_reducible exact ih0 _ _ _ _)
      | (with_reducible exact LeO.refl _)
      | (with_reducible exact LeO.none _)
      | (with_reducible refine LeO.ite ?_ ?_)
      | (with_reducible refine LeO.bind ?_ (fun _ => ?_))
      | exact ih0 _ _ _ _
      | exact LeO.none _
      | refine LeO.ite ?_ ?_
      | refine LeO.bind ?_ (fun _ => ?_)
theorem fault_Name.mono : ∀ a0 k, LeO (fault_Name.f k a0) (fault_Name.f (k + 1) a0) := by
  intro a0 k
  have ih0 := fault_Name.mono_l k
  unfold fault_Name.f
  repeat' first
      | (with_reducible exact ih0 _ _ _ _)
      | (with_reducible exact LeO.refl _)
      | (with_reducible exact LeO.none _)
      | (with_reducible refine LeO.ite ?_ ?_)
      | (with_reducible refine LeO.bind ?_ (fun _ => ?_))
      | exact ih0 _ _ _ _
      | exact LeO.none _
      | refine LeO.ite ?_ ?_
      | refine LeO.bind ?_ (fun _ => ?_)
set_option maxHeartbeats 8000000 in
set_option maxRecDepth 100000 in
theorem fault_Name.calls (k : Nat) (a0 : Int) (r : ByteArray) (w : World) (HW0 : As.Laid w) (h : fault_Name.f k a0 = some r) :
    Calls Tryd.prog 14 #[.int .i64 a0] w fun e w' => e = .returned (.string r) ∧ Below w.heap.size w w' := by
  have hu66 := Tryd.underlying66
  have HB := Aside0.mk (Below.refl w.heap.size w)
  have HW := Aside0.mk HW0
  clear HW0
  have H : ((fault_all.f).bind fun t111 => (fault_Name.l0 k a0 t111 (t111.length : Int) 0)) = some r := h
  clear h
  replace H := Option.bind_eq_some_iff.mp H
  obtain ⟨t111, A20, H⟩ := H
  replace H : (fault_Name.l0 k a0 t111 (t111.length : Int) 0) = some r := H
  have A2 := Aside0.mk A20
  clear A20
  have H' := Aside0.mk H
  clear H
  go_enter Tryd.func14, Tryd.ntmps14
  go_wp2_with (first | ((with_reducible refine gate_callee (f := 32) rfl ?_); refine goesL_ (some 5) rfl rfl Tryd.func32 (by kernel_rfl) rfl #[] rfl (by (try simp only [List.map_toArray, List.map_cons, List.map_nil]); first | done | rfl | (simp only [List.length_drop, List.length_take]; rfl)) ?_; (with_reducible refine (fault_all.calls  t111 _ A2.out).mono ?_); rintro e w3 ⟨v112, rfl, ho0, hb⟩; refine ⟨_, rfl, ?_⟩; have n0_ := Aside0.mk (Kd.R_lower ho0 (below_size (by repeat (first | (with_reducible first | exact HB.out | apply below_alloc | apply pw_below_drewN | apply below_drew1) | exact HB.out)))); have n1_ := Aside0.mk (below_step (by repeat (first | (with_reducible first | exact HB.out | apply below_alloc | apply pw_below_drewN | apply below_drew1) | exact HB.out)) hb); clear HB; have HO113 := n0_; have HB := n1_; clear n0_ n1_; (try clear hb); (try clear hb2); (try clear hk); (try clear hi); (try clear ho0); obtain ⟨Ao4, co4, eo4⟩ := Kd.R_slice HO113.out; subst eo4))
  go_loopg [7] k (fun kq v7 w' => ∃ (x7_1 : Int), v7 = .int .i64 x7_1 ∧ Aside0 (fault_Name.l0 kq a0 t111 (t111.length : Int) x7_1 = some r) ∧ Aside0 (kq ≤ k) ∧ Aside0 (Kd.R k66 66 w' w.heap.size (fun _ => True) (.slice Ao4 t111.length co4) t111) ∧ Aside0 (Below w.heap.size w w'))
  case atStart => exact ⟨(0), (by first | rfl | (simp; done) | (simp [*]; done) | (simp [wrap64]; done)), H', ⟨Nat.le_refl _⟩, ⟨by (with_reducible repeat (first | apply Kd.R_alloc | apply Kd.R_drewN | apply Kd.R_drew)); exact HO113.out⟩, ⟨by repeat (first | (with_reducible first | exact HB.out | apply below_alloc | apply pw_below_drewN | apply below_drew1) | exact HB.out)⟩⟩
  case round =>
    clear H'
    try clear c1
    try clear p2
    try clear c3
    obtain ⟨x7_1, rfl, HA, HK1, HO_5, HB⟩ := hrel
    cases gk with
    | zero => exact absurd HA.out (by simp [fault_Name.l0])
    | succ k1 =>
      have H := HA.out
      clear HA
      simp only [fault_Name.l0] at H
      by_cases c5 : x7_1 < (t111.length : Int)
      · rw [if_pos c5] at H
        have c5b0 : decide (x7_1 < (t111.length : Int)) = true := decide_eq_true c5
        clear c5
        by_cases c6 : 0 ≤ x7_1
        · rw [if_pos c6] at H
          have c6b0 : decide (0 ≤ x7_1) = true := decide_eq_true c6
          clear c6
          by_cases c7 : x7_1 < (t111.length : Int)
          · rw [if_pos c7] at H
            have c7b0 : decide (x7_1 < (t111.length : Int)) = true := decide_eq_true c7
            clear c7
            by_cases c8 : ((rd_T66 t111 x7_1).f0) = a0
            · rw [if_pos c8] at H
              have c8b0 : (((rd_T66 t111 x7_1).f0) == a0) = true := beq_iff_eq.mpr c8
              have c8b1 : (((rd_T66 t111 x7_1).f0) != a0) = false := bne_eq_false_iff_eq.mpr c8
              clear c8
              obtain rfl := Option.some.inj H
              have p114 : 0 ≤ (x7_1 : Int) := of_decide_eq_true (by first | (with_reducible assumption) | assumption)
              have q114 : x7_1 < (t111.length : Int) := of_decide_eq_true (by first | (with_reducible assumption) | assumption)
              obtain ⟨ad114, e114, hx114_0, hx114_1⟩ := at_T66 (Kd.R_reads' HO_5.out).2.2 x7_1 p114 q114
              cases e114
              replace p114 := eq_true p114
              replace q114 := eq_true q114
              go_wp2_with (first | ((with_reducible refine gate_dst (N := 4) rfl ?_); refine box_event ?hg (N := 4) ?hd (cs := #[.int .i64 0, .string (⟨#[]⟩ : ByteArray)]) (t := 66) ?hr ?_; (case hd => rfl); (case hg => rfl); (case hr => first | (go_simp; done) | (go_simp; rfl)); intro gb115 hg w9 hbox hb; have n0_ := Aside0.mk (Kd.R_below (Kd.R_elderB (by (with_reducible repeat (first | apply Kd.R_alloc | apply Kd.R_drewN | apply Kd.R_drew)); exact HO_5.out) gb115 (Nat.le_of_eq hg.symm)) hb); have n1_ := Aside0.mk (below_step (by repeat (first | (with_reducible first | exact HB.out | apply below_alloc | apply pw_below_drewN | apply below_drew1) | exact HB.out)) hb); have n2_ := Aside0.mk (hbox); have n3_ := Aside0.mk ((by rw [hg]; exact (below_size (by repeat (first | (with_reducible first | exact HB.out | apply below_alloc | apply pw_below_drewN | apply below_drew1) | exact HB.out))) : w.heap.size ≤ gb115)); have n4_ := Aside0.mk ((by rw [hg]; exact (below_size (by repeat (first | (with_reducible first | exact HB.out | apply below_alloc | apply pw_below_drewN | apply below_drew1) | exact HB.out))) : w.heap.size ≤ gb115)); clear HO_5; clear HB; have HO_5 := n0_; have HB := n1_; have BK115 := n2_; have GW115 := n3_; have GE115 := n4_; clear n0_ n1_ n2_ n3_ n4_; clear hb hbox hg; have hcz10_0 : w9.cell? ⟨gb115, 0, none⟩ = some (.int .i64 0) := (blk_cell BK115.out 0).trans rfl; have hcz10_1 : w9.cell? ⟨gb115, 1, none⟩ = some (.string (⟨#[]⟩ : ByteArray)) := (blk_cell BK115.out 1).trans rfl; have hfz10_0 := blk_frozen BK115.out 0; have hfz10_1 := blk_frozen BK115.out 1))
              go_ret
              exact ⟨by first | rfl | exact isEmpty_bne_ _ | (simp [errW_none, errW_some] <;> rfl) | (simp [*, errW_none, errW_some] <;> rfl), by repeat (first | (with_reducible first | exact HB.out | apply below_alloc | apply pw_below_drewN | apply below_drew1 | refine below_set ?_ GE115.out) | exact HB.out)⟩
            · rw [if_neg c8] at H
              have c8b0 : (((rd_T66 t111 x7_1).f0) == a0) = false := beq_eq_false_iff_ne.mpr c8
              have c8b1 : (((rd_T66 t111 x7_1).f0) != a0) = true := bne_iff_ne.mpr c8
              have H' := Aside0.mk H
              clear H
              have p114 : 0 ≤ (x7_1 : Int) := of_decide_eq_true (by first | (with_reducible assumption) | assumption)
              have q114 : x7_1 < (t111.length : Int) := of_decide_eq_true (by first | (with_reducible assumption) | assumption)
              obtain ⟨ad114, e114, hx114_0, hx114_1⟩ := at_T66 (Kd.R_reads' HO_5.out).2.2 x7_1 p114 q114
              cases e114
              replace p114 := eq_true p114
              replace q114 := eq_true q114
              go_wp2_with (first | ((with_reducible refine gate_dst (N := 4) rfl ?_); refine box_event ?hg (N := 4) ?hd (cs := #[.int .i64 0, .string (⟨#[]⟩ : ByteArray)]) (t := 66) ?hr ?_; (case hd => rfl); (case hg => rfl); (case hr => first | (go_simp; done) | (go_simp; rfl)); intro gb115 hg w11 hbox hb; have n0_ := Aside0.mk (Kd.R_below (Kd.R_elderB (by (with_reducible repeat (first | apply Kd.R_alloc | apply Kd.R_drewN | apply Kd.R_drew)); exact HO_5.out) gb115 (Nat.le_of_eq hg.symm)) hb); have n1_ := Aside0.mk (below_step (by repeat (first | (with_reducible first | exact HB.out | apply below_alloc | apply pw_below_drewN | apply below_drew1) | exact HB.out)) hb); have n2_ := Aside0.mk (hbox); have n3_ := Aside0.mk ((by rw [hg]; exact (below_size (by repeat (first | (with_reducible first | exact HB.out | apply below_alloc | apply pw_below_drewN | apply below_drew1) | exact HB.out))) : w.heap.size ≤ gb115)); have n4_ := Aside0.mk ((by rw [hg]; exact (below_size (by repeat (first | (with_reducible first | exact HB.out | apply below_alloc | apply pw_below_drewN | apply below_drew1) | exact HB.out))) : w.heap.size ≤ gb115)); clear HO_5; clear HB; have HO_5 := n0_; have HB := n1_; have BK115 := n2_; have GW115 := n3_; have GE115 := n4_; clear n0_ n1_ n2_ n3_ n4_; clear hb hbox hg; have hcz12_0 : w11.cell? ⟨gb115, 0, none⟩ = some (.int .i64 0) := (blk_cell BK115.out 0).trans rfl; have hcz12_1 : w11.cell? ⟨gb115, 1, none⟩ = some (.string (⟨#[]⟩ : ByteArray)) := (blk_cell BK115.out 1).trans rfl; have hfz12_0 := blk_frozen BK115.out 0; have hfz12_1 := blk_frozen BK115.out 1))
              go_roundg k1
              case measure => have := HK1.out; omega
              case rel => exact ⟨(wrap64 (x7_1 + 1)), (by first | rfl | (simp; done) | (simp [*]; done) | (simp [wrap64]; done)), H', ⟨by have := HK1.out; omega⟩, ⟨by (with_reducible repeat (first | apply Kd.R_alloc | apply Kd.R_drewN | apply Kd.R_drew)); exact Kd.R_mono (Kd.R_far (p := ⟨gb115, 1, none⟩) (Kd.R_far (p := ⟨gb115, 0, none⟩) (Kd.R_mono HO_5.out (fun k_ hk => (⟨hk, hk.2⟩ : _ ∧ k_ ≠ gb115))) (fun _ hk => hk.2) (.int .i64 ((rd_T66 t111 x7_1).f0))) (fun _ hk => hk.2) (.string ((rd_T66 t111 x7_1).f1))) (fun _ hk => trivial)⟩, ⟨by repeat (first | (with_reducible first | exact HB.out | apply below_alloc | apply pw_below_drewN | apply below_drew1 | refine below_set ?_ GE115.out) | exact HB.out)⟩⟩
          · rw [if_neg c7] at H
            exact absurd H (by simp)
        · rw [if_neg c6] at H
          exact absurd H (by simp)
      · rw [if_neg c5] at H
        have c5b0 : decide (x7_1 < (t111.length : Int)) = false := decide_eq_false c5
        clear c5
        replace H := Option.bind_eq_some_iff.mp H
        obtain ⟨t116, A130, H⟩ := H
        replace H : (if 1 + t116.size ≤ 9223372036854775807 then (some ((⟨#[69]⟩ : ByteArray) ++ t116)) else (none)) = some r := H
        have A13 := Aside0.mk A130
        clear A130
        by_cases c14 : 1 + t116.size ≤ 9223372036854775807
        · rw [if_pos c14] at H
          have c14b0 := eq_true c14
          have c14b1 : decide (1 + t116.size ≤ 9223372036854775807) = true := decide_eq_true c14
          try have c14b2 : (9223372036854775807 < 1 + t116.size) = False := eq_false (Nat.not_lt.2 c14)
          try (have c14s := c14; simp [] at c14s)
          obtain rfl := Option.some.inj H
          go_wp2_with (first | ((with_reducible refine gate_callee (f := 34) rfl ?_); refine goesL_ (some 19) rfl rfl Tryd.func34 (by kernel_rfl) rfl #[.int .i64 a0] rfl (by (try simp only [List.map_toArray, List.map_cons, List.map_nil]); first | done | rfl | (simp only [List.length_drop, List.length_take]; rfl)) ?_; (with_reducible refine (strconv_Itoa.calls a0 t116 _ (HW.out.on (by repeat (first | (with_reducible first | exact HB.out | apply below_alloc | apply pw_below_drewN | apply below_drew1) | exact HB.out))) A13.out).mono ?_); rintro e w15 ⟨rfl, hb⟩; refine ⟨_, rfl, ?_⟩; have n0_ := Aside0.mk (Kd.R_below (by (with_reducible repeat (first | apply Kd.R_alloc | apply Kd.R_drewN | apply Kd.R_drew)); exact HO_5.out) hb); have n1_ := Aside0.mk (below_step (by repeat (first | (with_reducible first | exact HB.out | apply below_alloc | apply pw_below_drewN | apply below_drew1) | exact HB.out)) hb); clear HO_5; clear HB; have HO_5 := n0_; have HB := n1_; clear n0_ n1_; (try clear hb); (try clear hb2); (try clear hk); (try clear hi)))
          go_ret
          exact ⟨by first | rfl | exact isEmpty_bne_ _ | (simp [errW_none, errW_some] <;> rfl) | (simp [*, errW_none, errW_some] <;> rfl), by repeat (first | (with_reducible first | exact HB.out | apply below_alloc | apply pw_below_drewN | apply below_drew1) | exact HB.out)⟩
        · rw [if_neg c14] at H
          exact absurd H (by simp)

/-! ### fault_First: function 29 -/
def fault_First.l0 : Nat → List Int → Int → Int → Option (Int × Int)
  | 0, _, _, _ => none
  | k + 1, x6, x7, x8 => if x8 < x7 then (if 0 ≤ x8 then (if x8 < (x6.length : Int) then (if (rd x6 x8) = 0 then (fault_First.l0 k x6 x7 (wrap64 (x8 + 1))) else (some (x8, rd x6 x8))) else (none)) else (none)) else (some ((-1), 0))
def fault_First.f (k : Nat) (l0 : List Int) : Option (Int × Int) := fault_First.l0 k l0 (l0.length : Int) 0
theorem fault_First.mono_l : ∀ k, (∀ y0 y1 y2, LeO (fault_First.l0 k y0 y1 y2) (fault_First.l0 (k + 1) y0 y1 y2))
  | 0 => fun _ _ _ r h => by simp [fault_First.l0] at h
  | k + 1 => by
    have ih0 := fault_First.mono_l k
    · intro y0 y1 y2
      unfold fault_First.l0
      repeat' first
      | (with_reducible exact ih0 _ _ _)
      | (with_reducible exact LeO.refl _)
      | (with_reducible exact LeO.none _)
      | (with_reducible refine LeO.ite ?_ ?_)
      | (with_reducible refine LeO.bind ?_ (fun _ => ?_))
      | exact ih0 _ _ _
      | exact LeO.none _
      | refine LeO.ite ?_ ?_
      | refine LeO.bind ?_ (fun _ => ?_)
theorem fault_First.mono : ∀ a0 k, LeO (fault_First.f k a0) (fault_First.f (k + 1) a0) := by
  intro a0 k
  have ih0 := fault_First.mono_l k
  unfold fault_First.f
  repeat' first
      | (with_reducible exact ih0 _ _ _)
      | (with_reducible exact LeO.refl _)
      | (with_reducible exact LeO.none _)
      | (with_reducible refine LeO.ite ?_ ?_)
      | (with_reducible refine LeO.bind ?_ (fun _ => ?_))
      | exact ih0 _ _ _
      | exact LeO.none _
      | refine LeO.ite ?_ ?_
      | refine LeO.bind ?_ (fun _ => ?_)
set_option maxHeartbeats 8000000 in
set_option maxRecDepth 100000 in
theorem fault_First.calls (k : Nat) (A0 : Option Addr) (c0 : Nat) (l0 : List Int) (r1 : Int) (r2 : Int) (w : World) (hr0 : Kd.C (Kd.int .i64) w A0 l0.length l0) (hc0 : l0.length ≤ c0) (h : fault_First.f k l0 = some (r1, r2)) :
    Calls Tryd.prog 29 #[.slice A0 l0.length c0] w fun e w' => e = .returned (.tuple #[.int .i64 r1, .int .i64 r2]) ∧ Drawn0 w w' := by
  have HR0 := Aside0.mk hr0
  have HC0 := Aside0.mk hc0
  clear hr0 hc0
  have H : (fault_First.l0 k l0 (l0.length : Int) 0) = some (r1, r2) := h
  clear h
  have H' := Aside0.mk H
  clear H
  go_enter Tryd.func29, Tryd.ntmps29
  go_wp2
  go_loopg [8] k (fun kq v8 w' => ∃ (x8_1 : Int), v8 = .int .i64 x8_1 ∧ Aside0 (fault_First.l0 kq l0 (l0.length : Int) x8_1 = some (r1, r2)) ∧ Aside0 (kq ≤ k) ∧ Drawn0 w w')
  case atStart => exact ⟨(0), (by first | rfl | (simp; done) | (simp [*]; done) | (simp [wrap64]; done)), H', ⟨Nat.le_refl _⟩, by repeat (first | exact Drawn0.refl _ | apply Drawn0.step)⟩
  case round =>
    clear H'
    obtain ⟨x8_1, rfl, HA, HK1, ⟨m1, rfl⟩⟩ := hrel
    cases gk with
    | zero => exact absurd HA.out (by simp [fault_First.l0])
    | succ k1 =>
      have H := HA.out
      clear HA
      simp only [fault_First.l0] at H
      by_cases c2 : x8_1 < (l0.length : Int)
      · rw [if_pos c2] at H
        have c2b0 : decide (x8_1 < (l0.length : Int)) = true := decide_eq_true c2
        clear c2
        by_cases c3 : 0 ≤ x8_1
        · rw [if_pos c3] at H
          have c3b0 : decide (0 ≤ x8_1) = true := decide_eq_true c3
          clear c3
          by_cases c4 : x8_1 < (l0.length : Int)
          · rw [if_pos c4] at H
            have c4b0 : decide (x8_1 < (l0.length : Int)) = true := decide_eq_true c4
            clear c4
            by_cases c5 : (rd l0 x8_1) = 0
            · rw [if_pos c5] at H
              have c5b0 : ((rd l0 x8_1) == 0) = true := beq_iff_eq.mpr c5
              have c5b1 : ((rd l0 x8_1) != 0) = false := bne_eq_false_iff_eq.mpr c5
              clear c5
              have H' := Aside0.mk H
              clear H
              have p117 : 0 ≤ (x8_1 : Int) := of_decide_eq_true (by first | (with_reducible assumption) | assumption)
              have q117 : x8_1 < (l0.length : Int) := of_decide_eq_true (by first | (with_reducible assumption) | assumption)
              obtain ⟨ad117, e117, hx117_0⟩ := Kd.at_int HR0.out x8_1 p117 q117
              cases e117
              replace p117 := eq_true p117
              replace q117 := eq_true q117
              go_wp2
              go_roundg k1
              case measure => have := HK1.out; omega
              case rel => exact ⟨(wrap64 (x8_1 + 1)), (by first | rfl | (simp; done) | (simp [*]; done) | (simp [wrap64]; done)), H', ⟨by have := HK1.out; omega⟩, by repeat (first | exact Drawn0.refl _ | apply Drawn0.step)⟩
            · rw [if_neg c5] at H
              have c5b0 : ((rd l0 x8_1) == 0) = false := beq_eq_false_iff_ne.mpr c5
              have c5b1 : ((rd l0 x8_1) != 0) = true := bne_iff_ne.mpr c5
              simp only [Option.some.injEq, Prod.mk.injEq] at H
              obtain ⟨rfl, rfl⟩ := H
              have p117 : 0 ≤ (x8_1 : Int) := of_decide_eq_true (by first | (with_reducible assumption) | assumption)
              have q117 : x8_1 < (l0.length : Int) := of_decide_eq_true (by first | (with_reducible assumption) | assumption)
              obtain ⟨ad117, e117, hx117_0⟩ := Kd.at_int HR0.out x8_1 p117 q117
              cases e117
              replace p117 := eq_true p117
              replace q117 := eq_true q117
              go_wp2
              go_ret2
              exact ⟨by first | rfl | exact isEmpty_bne_ _ | (simp; done) | (simp [*]; done) | (simp [wrap64]; done), by repeat (first | exact Drawn0.refl _ | apply Drawn0.step)⟩
          · rw [if_neg c4] at H
            exact absurd H (by simp)
        · rw [if_neg c3] at H
          exact absurd H (by simp)
      · rw [if_neg c2] at H
        have c2b0 : decide (x8_1 < (l0.length : Int)) = false := decide_eq_false c2
        clear c2
        simp only [Option.some.injEq, Prod.mk.injEq] at H
        obtain ⟨rfl, rfl⟩ := H
        go_wp2
        go_ret2
        exact ⟨by first | rfl | exact isEmpty_bne_ _ | (simp; done) | (simp [*]; done) | (simp [wrap64]; done), by repeat (first | exact Drawn0.refl _ | apply Drawn0.step)⟩

/-! ### pumiceref04_Class: function 13 -/
mutual
def pumiceref04_Class.j0 : Nat → Int → Bool → Option (Int)
  | 0, _, _ => none
  | k + 1, x3, x6 => if x6 = true then (some 1) else (if x3 = 22 then (pumiceref04_Class.j1 k x3 (x3 == 22)) else (if x3 = 14 then (pumiceref04_Class.j1 k x3 (x3 == 14)) else (if x3 = 9 then (pumiceref04_Class.j1 k x3 (x3 == 9)) else (if x3 = 36 then (pumiceref04_Class.j1 k x3 (x3 == 36)) else (pumiceref04_Class.j1 k x3 (x3 == 40))))))
def pumiceref04_Class.j1 : Nat → Int → Bool → Option (Int)
  | 0, _, _ => none
  | k + 1, x3, x11 => if x11 = true then (some 2) else (if x3 = 28 then (pumiceref04_Class.j2 k x3 (x3 == 28)) else (if x3 = 27 then (pumiceref04_Class.j2 k x3 (x3 == 27)) else (if x3 = 24 then (pumiceref04_Class.j2 k x3 (x3 == 24)) else (pumiceref04_Class.j2 k x3 (x3 == 31)))))
def pumiceref04_Class.j2 : Nat → Int → Bool → Option (Int)
  | 0, _, _ => none
  | k + 1, x3, x17 => if x17 = true then (some 3) else (if x3 = 1 then (pumiceref04_Class.j3 k x3 (x3 == 1)) else (if x3 = 13 then (pumiceref04_Class.j3 k x3 (x3 == 13)) else (pumiceref04_Class.j3 k x3 (x3 == 30))))
def pumiceref04_Class.j3 : Nat → Int → Bool → Option (Int)
  | 0, _, _ => none
  | k + 1, x3, x22 => if x22 = true then (some 4) else (if x3 = 2 then (some 5) else (if x3 = 17 then (some 5) else (if x3 = 20 then (some 5) else (if x3 = 21 then (some 5) else (if x3 = 39 then (some 5) else (if x3 = 16 then (some 5) else (some 6)))))))
end
def pumiceref04_Class.f (k : Nat) (a0 : Int) : Option (Int) := if a0 = 0 then (some 0) else (if a0 = 5 then (pumiceref04_Class.j0 k a0 (a0 == 5)) else (if a0 = 6 then (pumiceref04_Class.j0 k a0 (a0 == 6)) else (if a0 = 117 then (pumiceref04_Class.j0 k a0 (a0 == 117)) else (pumiceref04_Class.j0 k a0 (a0 == 19)))))
theorem pumiceref04_Class.mono_l : ∀ k, (∀ y0 y1, LeO (pumiceref04_Class.j0 k y0 y1) (pumiceref04_Class.j0 (k + 1) y0 y1)) ∧ (∀ y0 y1, LeO (pumiceref04_Class.j1 k y0 y1) (pumiceref04_Class.j1 (k + 1) y0 y1)) ∧ (∀ y0 y1, LeO (pumiceref04_Class.j2 k y0 y1) (pumiceref04_Class.j2 (k + 1) y0 y1)) ∧ (∀ y0 y1, LeO (pumiceref04_Class.j3 k y0 y1) (pumiceref04_Class.j3 (k + 1) y0 y1))
  | 0 => ⟨fun _ _ r h => by simp [pumiceref04_Class.j0] at h, fun _ _ r h => by simp [pumiceref04_Class.j1] at h, fun _ _ r h => by simp [pumiceref04_Class.j2] at h, fun _ _ r h => by simp [pumiceref04_Class.j3] at h⟩
  | k + 1 => by
    obtain ⟨ih0, ih1, ih2, ih3⟩ := pumiceref04_Class.mono_l k
    refine ⟨?_, ?_, ?_, ?_⟩
    · intro y0 y1
      unfold pumiceref04_Class.j0
      repeat' first
      | (with_reducible exact ih0 _ _)
      | (with_reducible exact ih1 _ _)
      | (with_reducible exact ih2 _ _)
      | (with_reducible exact ih3 _ _)
      | (with_reducible exact LeO.refl _)
      | (with_reducible exact LeO.none _)
      | (with_reducible refine LeO.ite ?_ ?_)
      | (with_reducible refine LeO.bind ?_ (fun _ => ?_))
      | exact ih0 _ _
      | exact ih1 _ _
      | exact ih2 _ _
      | exact ih3 _ _
      | exact LeO.none _
      | refine LeO.ite ?_ ?_
      | refine LeO.bind ?_ (fun _ => ?_)
    · intro y0 y1
      unfold pumiceref04_Class.j1
      repeat' first
      | (with_reducible exact ih0 _ _)
      | (with_reducible exact ih1 _ _)
      | (with_reducible exact ih2 _ _)
      | (with_reducible exact ih3 _ _)
      | (with_reducible exact LeO.refl _)
      | (with_reducible exact LeO.none _)
      | (with_reducible refine LeO.ite ?_ ?_)
      | (with_reducible refine LeO.bind ?_ (fun _ => ?_))
      | exact ih0 _ _
      | exact ih1 _ _
      | exact ih2 _ _
      | exact ih3 _ _
      | exact LeO.none _
      | refine LeO.ite ?_ ?_
      | refine LeO.bind ?_ (fun _ => ?_)
    · intro y0 y1
      unfold pumiceref04_Class.j2
      repeat' first
      | (with_reducible exact ih0 _ _)
      | (with_reducible exact ih1 _ _)
      | (with_reducible exact ih2 _ _)
      | (with_reducible exact ih3 _ _)
      | (with_reducible exact LeO.refl _)
      | (with_reducible exact LeO.none _)
      | (with_reducible refine LeO.ite ?_ ?_)
      | (with_reducible refine LeO.bind ?_ (fun _ => ?_))
      | exact ih0 _ _
      | exact ih1 _ _
      | exact ih2 _ _
      | exact ih3 _ _
      | exact LeO.none _
      | refine LeO.ite ?_ ?_
      | refine LeO.bind ?_ (fun _ => ?_)
    · intro y0 y1
      unfold pumiceref04_Class.j3
      repeat' first
      | (with_reducible exact ih0 _ _)
      | (with_reducible exact ih1 _ _)
      | (with_reducible exact ih2 _ _)
      | (with_reducible exact ih3 _ _)
      | (with_reducible exact LeO.refl _)
      | (with_reducible exact LeO.none _)
      | (with_reducible refine LeO.ite ?_ ?_)
      | (with_reducible refine LeO.bind ?_ (fun _ => ?_))
      | exact ih0 _ _
      | exact ih1 _ _
      | exact ih2 _ _
      | exact ih3 _ _
      | exact LeO.none _
      | refine LeO.ite ?_ ?_
      | refine LeO.bind ?_ (fun _ => ?_)
theorem pumiceref04_Class.mono : ∀ a0 k, LeO (pumiceref04_Class.f k a0) (pumiceref04_Class.f (k + 1) a0) := by
  intro a0 k
  obtain ⟨ih0, ih1, ih2, ih3⟩ := pumiceref04_Class.mono_l k
  unfold pumiceref04_Class.f
  repeat' first
      | (with_reducible exact ih0 _ _)
      | (with_reducible exact ih1 _ _)
      | (with_reducible exact ih2 _ _)
      | (with_reducible exact ih3 _ _)
      | (with_reducible exact LeO.refl _)
      | (with_reducible exact LeO.none _)
      | (with_reducible refine LeO.ite ?_ ?_)
      | (with_reducible refine LeO.bind ?_ (fun _ => ?_))
      | exact ih0 _ _
      | exact ih1 _ _
      | exact ih2 _ _
      | exact ih3 _ _
      | exact LeO.none _
      | refine LeO.ite ?_ ?_
      | refine LeO.bind ?_ (fun _ => ?_)
set_option maxHeartbeats 8000000 in
set_option maxRecDepth 100000 in
theorem pumiceref04_Class.calls (k : Nat) (a0 : Int) (r : Int) (w : World) (h : pumiceref04_Class.f k a0 = some r) :
    Calls Tryd.prog 13 #[.int .i64 a0] w fun e w' => e = .returned (.int .i64 r) ∧ Drawn0 w w' := by
  have H : (if a0 = 0 then (some 0) else (if a0 = 5 then (pumiceref04_Class.j0 k a0 (a0 == 5)) else (if a0 = 6 then (pumiceref04_Class.j0 k a0 (a0 == 6)) else (if a0 = 117 then (pumiceref04_Class.j0 k a0 (a0 == 117)) else (pumiceref04_Class.j0 k a0 (a0 == 19)))))) = some r := h
  clear h
  by_cases c2 : a0 = 0
  · rw [if_pos c2] at H
    have c2b0 : (a0 == 0) = true := beq_iff_eq.mpr c2
    have c2b1 : (a0 != 0) = false := bne_eq_false_iff_eq.mpr c2
    clear c2
    obtain rfl := Option.some.inj H
    go_enter Tryd.func13, Tryd.ntmps13
    go_wp2
    go_ret
    exact ⟨by first | rfl | exact isEmpty_bne_ _ | (simp; done) | (simp [*]; done) | (simp [wrap64]; done), by repeat (first | exact Drawn0.refl _ | apply Drawn0.step)⟩
  · rw [if_neg c2] at H
    have c2b0 : (a0 == 0) = false := beq_eq_false_iff_ne.mpr c2
    have c2b1 : (a0 != 0) = true := bne_iff_ne.mpr c2
    have HC3 := Aside0.mk H
    clear H
    go_enter Tryd.func13, Tryd.ntmps13
    go_upto_if 6 with (fail)
    go_cut [6] (fun v6 wc => ∃ (kq : Nat) (x6_2 : Bool), v6 = .bool x6_2 ∧ Aside0 (pumiceref04_Class.j0 kq a0 x6_2 = some r) ∧ Aside0 (kq ≤ k) ∧ Drawn0 w wc)
    case first =>
      have H := HC3.out
      clear HC3
      by_cases c4 : a0 = 5
      · rw [if_pos c4] at H
        have c4b0 : (a0 == 5) = true := beq_iff_eq.mpr c4
        have c4b1 : (a0 != 5) = false := bne_eq_false_iff_eq.mpr c4
        clear c4
        (first | rw [c4b0] | (simp only [i64_w, i32_w]; rw [c4b0]) | skip)
        have H' := Aside0.mk H
        clear H
        go_wp2
        go_meet
        case rel => exact ⟨_, ((a0 == 5)), (by first | rfl | (simp; done) | (simp [*]; done) | (simp [wrap64]; done)), H', ⟨by first | omega | exact Nat.le_refl _⟩, by repeat (first | exact Drawn0.refl _ | apply Drawn0.step)⟩
      · rw [if_neg c4] at H
        have c4b0 : (a0 == 5) = false := beq_eq_false_iff_ne.mpr c4
        have c4b1 : (a0 != 5) = true := bne_iff_ne.mpr c4
        (first | rw [c4b0] | (simp only [i64_w, i32_w]; rw [c4b0]) | skip)
        by_cases c5 : a0 = 6
        · rw [if_pos c5] at H
          have c5b0 : (a0 == 6) = true := beq_iff_eq.mpr c5
          have c5b1 : (a0 != 6) = false := bne_eq_false_iff_eq.mpr c5
          clear c5
          have H' := Aside0.mk H
          clear H
          go_wp2
          go_meet
          case rel => exact ⟨_, ((a0 == 6)), (by first | rfl | (simp; done) | (simp [*]; done) | (simp [wrap64]; done)), H', ⟨by first | omega | exact Nat.le_refl _⟩, by repeat (first | exact Drawn0.refl _ | apply Drawn0.step)⟩
        · rw [if_neg c5] at H
          have c5b0 : (a0 == 6) = false := beq_eq_false_iff_ne.mpr c5
          have c5b1 : (a0 != 6) = true := bne_iff_ne.mpr c5
          by_cases c6 : a0 = 117
          · rw [if_pos c6] at H
            have c6b0 : (a0 == 117) = true := beq_iff_eq.mpr c6
            have c6b1 : (a0 != 117) = false := bne_eq_false_iff_eq.mpr c6
            clear c6
            have H' := Aside0.mk H
            clear H
            go_wp2
            go_meet
            case rel => exact ⟨_, ((a0 == 117)), (by first | rfl | (simp; done) | (simp [*]; done) | (simp [wrap64]; done)), H', ⟨by first | omega | exact Nat.le_refl _⟩, by repeat (first | exact Drawn0.refl _ | apply Drawn0.step)⟩
          · rw [if_neg c6] at H
            have c6b0 : (a0 == 117) = false := beq_eq_false_iff_ne.mpr c6
            have c6b1 : (a0 != 117) = true := bne_iff_ne.mpr c6
            have H' := Aside0.mk H
            clear H
            go_wp2
            go_meet
            case rel => exact ⟨_, ((a0 == 19)), (by first | rfl | (simp; done) | (simp [*]; done) | (simp [wrap64]; done)), H', ⟨by first | omega | exact Nat.le_refl _⟩, by repeat (first | exact Drawn0.refl _ | apply Drawn0.step)⟩
    case rest =>
      clear HC3
      try clear c1
      try clear c2
      try clear c2b0
      try clear c2b1
      try clear p2
      try clear c4
      try clear c4b0
      try clear c4b1
      try clear c5
      try clear c5b0
      try clear c5b1
      try clear c6
      try clear c6b0
      try clear c6b1
      try clear p6
      obtain ⟨kq, x6_2, rfl, HA, HJ2, ⟨mc2, rfl⟩⟩ := hcut
      cases kq with
      | zero => exact absurd HA.out (by simp [pumiceref04_Class.j0])
      | succ kj2 =>
        have H := HA.out
        clear HA
        simp only [pumiceref04_Class.j0] at H
        by_cases c7 : x6_2 = true
        · subst c7
          have H1 : (some 1) = some r := by rw [if_pos rfl] at H; exact H
          clear H
          have H := H1
          clear H1
          obtain rfl := Option.some.inj H
          go_wp2
          go_ret
          exact ⟨by first | rfl | exact isEmpty_bne_ _ | (simp; done) | (simp [*]; done) | (simp [wrap64]; done), by repeat (first | exact Drawn0.refl _ | apply Drawn0.step)⟩
        · replace c7 := Bool.eq_false_iff.mpr c7
          subst c7
          have H1 : (if a0 = 22 then (pumiceref04_Class.j1 kj2 a0 (a0 == 22)) else (if a0 = 14 then (pumiceref04_Class.j1 kj2 a0 (a0 == 14)) else (if a0 = 9 then (pumiceref04_Class.j1 kj2 a0 (a0 == 9)) else (if a0 = 36 then (pumiceref04_Class.j1 kj2 a0 (a0 == 36)) else (pumiceref04_Class.j1 kj2 a0 (a0 == 40)))))) = some r := by rw [if_neg (show ¬ (false = true) by decide)] at H; exact H
          clear H
          have H := H1
          clear H1
          have HC8 := Aside0.mk H
          clear H
          go_upto_if 11 with (fail)
          go_cut [11] (fun v11 wc => ∃ (kq : Nat) (x11_7 : Bool), v11 = .bool x11_7 ∧ Aside0 (pumiceref04_Class.j1 kq a0 x11_7 = some r) ∧ Aside0 (kq ≤ kj2) ∧ Drawn0 w wc)
          case first =>
            have H := HC8.out
            clear HC8
            by_cases c9 : a0 = 22
            · rw [if_pos c9] at H
              have c9b0 : (a0 == 22) = true := beq_iff_eq.mpr c9
              have c9b1 : (a0 != 22) = false := bne_eq_false_iff_eq.mpr c9
              clear c9
              (first | rw [c9b0] | (simp only [i64_w, i32_w]; rw [c9b0]) | skip)
              have H' := Aside0.mk H
              clear H
              go_wp2
              go_meet
              case rel => exact ⟨_, ((a0 == 22)), (by first | rfl | (simp; done) | (simp [*]; done) | (simp [wrap64]; done)), H', ⟨by have := HJ2.out; first | omega | exact Nat.le_refl _⟩, by repeat (first | exact Drawn0.refl _ | apply Drawn0.step)⟩
            · rw [if_neg c9] at H
              have c9b0 : (a0 == 22) = false := beq_eq_false_iff_ne.mpr c9
              have c9b1 : (a0 != 22) = true := bne_iff_ne.mpr c9
              (first | rw [c9b0] | (simp only [i64_w, i32_w]; rw [c9b0]) | skip)
              by_cases c10 : a0 = 14
              · rw [if_pos c10] at H
                have c10b0 : (a0 == 14) = true := beq_iff_eq.mpr c10
                have c10b1 : (a0 != 14) = false := bne_eq_false_iff_eq.mpr c10
                clear c10
                have H' := Aside0.mk H
                clear H
                go_wp2
                go_meet
                case rel => exact ⟨_, ((a0 == 14)), (by first | rfl | (simp; done) | (simp [*]; done) | (simp [wrap64]; done)), H', ⟨by have := HJ2.out; first | omega | exact Nat.le_refl _⟩, by repeat (first | exact Drawn0.refl _ | apply Drawn0.step)⟩
              · rw [if_neg c10] at H
                have c10b0 : (a0 == 14) = false := beq_eq_false_iff_ne.mpr c10
                have c10b1 : (a0 != 14) = true := bne_iff_ne.mpr c10
                by_cases c11 : a0 = 9
                · rw [if_pos c11] at H
                  have c11b0 : (a0 == 9) = true := beq_iff_eq.mpr c11
                  have c11b1 : (a0 != 9) = false := bne_eq_false_iff_eq.mpr c11
                  clear c11
                  have H' := Aside0.mk H
                  clear H
                  go_wp2
                  go_meet
                  case rel => exact ⟨_, ((a0 == 9)), (by first | rfl | (simp; done) | (simp [*]; done) | (simp [wrap64]; done)), H', ⟨by have := HJ2.out; first | omega | exact Nat.le_refl _⟩, by repeat (first | exact Drawn0.refl _ | apply Drawn0.step)⟩
                · rw [if_neg c11] at H
                  have c11b0 : (a0 == 9) = false := beq_eq_false_iff_ne.mpr c11
                  have c11b1 : (a0 != 9) = true := bne_iff_ne.mpr c11
                  by_cases c12 : a0 = 36
                  · rw [if_pos c12] at H
                    have c12b0 : (a0 == 36) = true := beq_iff_eq.mpr c12
                    have c12b1 : (a0 != 36) = false := bne_eq_false_iff_eq.mpr c12
                    clear c12
                    have H' := Aside0.mk H
                    clear H
                    go_wp2
                    go_meet
                    case rel => exact ⟨_, ((a0 == 36)), (by first | rfl | (simp; done) | (simp [*]; done) | (simp [wrap64]; done)), H', ⟨by have := HJ2.out; first | omega | exact Nat.le_refl _⟩, by repeat (first | exact Drawn0.refl _ | apply Drawn0.step)⟩
                  · rw [if_neg c12] at H
                    have c12b0 : (a0 == 36) = false := beq_eq_false_iff_ne.mpr c12
                    have c12b1 : (a0 != 36) = true := bne_iff_ne.mpr c12
                    have H' := Aside0.mk H
                    clear H
                    go_wp2
                    go_meet
                    case rel => exact ⟨_, ((a0 == 40)), (by first | rfl | (simp; done) | (simp [*]; done) | (simp [wrap64]; done)), H', ⟨by have := HJ2.out; first | omega | exact Nat.le_refl _⟩, by repeat (first | exact Drawn0.refl _ | apply Drawn0.step)⟩
          case rest =>
            clear HC8
            try clear c1
            try clear c2
            try clear c2b0
            try clear c2b1
            try clear p2
            try clear c4
            try clear c4b0
            try clear c4b1
            try clear c5
            try clear c5b0
            try clear c5b1
            try clear c6
            try clear c6b0
            try clear c6b1
            try clear p6
            try clear c7
            try clear c9
            try clear c9b0
            try clear c9b1
            try clear c10
            try clear c10b0
            try clear c10b1
            try clear c11
            try clear c11b0
            try clear c11b1
            try clear c12
            try clear c12b0
            try clear c12b1
            try clear p2
            try clear p6
            obtain ⟨kq, x11_7, rfl, HA, HJ7, ⟨mc7, rfl⟩⟩ := hcut
            cases kq with
            | zero => exact absurd HA.out (by simp [pumiceref04_Class.j1])
            | succ kj7 =>
              have H := HA.out
              clear HA
              simp only [pumiceref04_Class.j1] at H
              by_cases c13 : x11_7 = true
              · subst c13
                have H1 : (some 2) = some r := by rw [if_pos rfl] at H; exact H
                clear H
                have H := H1
                clear H1
                obtain rfl := Option.some.inj H
                go_wp2
                go_ret
                exact ⟨by first | rfl | exact isEmpty_bne_ _ | (simp; done) | (simp [*]; done) | (simp [wrap64]; done), by repeat (first | exact Drawn0.refl _ | apply Drawn0.step)⟩
              · replace c13 := Bool.eq_false_iff.mpr c13
                subst c13
                have H1 : (if a0 = 28 then (pumiceref04_Class.j2 kj7 a0 (a0 == 28)) else (if a0 = 27 then (pumiceref04_Class.j2 kj7 a0 (a0 == 27)) else (if a0 = 24 then (pumiceref04_Class.j2 kj7 a0 (a0 == 24)) else (pumiceref04_Class.j2 kj7 a0 (a0 == 31))))) = some r := by rw [if_neg (show ¬ (false = true) by decide)] at H; exact H
                clear H
                have H := H1
                clear H1
                have HC14 := Aside0.mk H
                clear H
                go_upto_if 17 with (fail)
                go_cut [17] (fun v17 wc => ∃ (kq : Nat) (x17_13 : Bool), v17 = .bool x17_13 ∧ Aside0 (pumiceref04_Class.j2 kq a0 x17_13 = some r) ∧ Aside0 (kq ≤ kj7) ∧ Drawn0 w wc)
                case first =>
                  have H := HC14.out
                  clear HC14
                  by_cases c15 : a0 = 28
                  · rw [if_pos c15] at H
                    have c15b0 : (a0 == 28) = true := beq_iff_eq.mpr c15
                    have c15b1 : (a0 != 28) = false := bne_eq_false_iff_eq.mpr c15
                    clear c15
                    (first | rw [c15b0] | (simp only [i64_w, i32_w]; rw [c15b0]) | skip)
                    have H' := Aside0.mk H
                    clear H
                    go_wp2
                    go_meet
                    case rel => exact ⟨_, ((a0 == 28)), (by first | rfl | (simp; done) | (simp [*]; done) | (simp [wrap64]; done)), H', ⟨by have := HJ2.out; have := HJ7.out; first | omega | exact Nat.le_refl _⟩, by repeat (first | exact Drawn0.refl _ | apply Drawn0.step)⟩
                  · rw [if_neg c15] at H
                    have c15b0 : (a0 == 28) = false := beq_eq_false_iff_ne.mpr c15
                    have c15b1 : (a0 != 28) = true := bne_iff_ne.mpr c15
                    (first | rw [c15b0] | (simp only [i64_w, i32_w]; rw [c15b0]) | skip)
                    by_cases c16 : a0 = 27
                    · rw [if_pos c16] at H
                      have c16b0 : (a0 == 27) = true := beq_iff_eq.mpr c16
                      have c16b1 : (a0 != 27) = false := bne_eq_false_iff_eq.mpr c16
                      clear c16
                      have H' := Aside0.mk H
                      clear H
                      go_wp2
                      go_meet
                      case rel => exact ⟨_, ((a0 == 27)), (by first | rfl | (simp; done) | (simp [*]; done) | (simp [wrap64]; done)), H', ⟨by have := HJ2.out; have := HJ7.out; first | omega | exact Nat.le_refl _⟩, by repeat (first | exact Drawn0.refl _ | apply Drawn0.step)⟩
                    · rw [if_neg c16] at H
                      have c16b0 : (a0 == 27) = false := beq_eq_false_iff_ne.mpr c16
                      have c16b1 : (a0 != 27) = true := bne_iff_ne.mpr c16
                      by_cases c17 : a0 = 24
                      · rw [if_pos c17] at H
                        have c17b0 : (a0 == 24) = true := beq_iff_eq.mpr c17
                        have c17b1 : (a0 != 24) = false := bne_eq_false_iff_eq.mpr c17
                        clear c17
                        have H' := Aside0.mk H
                        clear H
                        go_wp2
                        go_meet
                        case rel => exact ⟨_, ((a0 == 24)), (by first | rfl | (simp; done) | (simp [*]; done) | (simp [wrap64]; done)), H', ⟨by have := HJ2.out; have := HJ7.out; first | omega | exact Nat.le_refl _⟩, by repeat (first | exact Drawn0.refl _ | apply Drawn0.step)⟩
                      · rw [if_neg c17] at H
                        have c17b0 : (a0 == 24) = false := beq_eq_false_iff_ne.mpr c17
                        have c17b1 : (a0 != 24) = true := bne_iff_ne.mpr c17
                        have H' := Aside0.mk H
                        clear H
                        go_wp2
                        go_meet
                        case rel => exact ⟨_, ((a0 == 31)), (by first | rfl | (simp; done) | (simp [*]; done) | (simp [wrap64]; done)), H', ⟨by have := HJ2.out; have := HJ7.out; first | omega | exact Nat.le_refl _⟩, by repeat (first | exact Drawn0.refl _ | apply Drawn0.step)⟩
                case rest =>
                  clear HC14
                  try clear c1
                  try clear c2
                  try clear c2b0
                  try clear c2b1
                  try clear p2
                  try clear c4
                  try clear c4b0
                  try clear c4b1
                  try clear c5
                  try clear c5b0
                  try clear c5b1
                  try clear c6
                  try clear c6b0
                  try clear c6b1
                  try clear p6
                  try clear c7
                  try clear c9
                  try clear c9b0
                  try clear c9b1
                  try clear c10
                  try clear c10b0
                  try clear c10b1
                  try clear c11
                  try clear c11b0
                  try clear c11b1
                  try clear c12
                  try clear c12b0
                  try clear c12b1
                  try clear c13
                  try clear c15
                  try clear c15b0
                  try clear c15b1
                  try clear c16
                  try clear c16b0
                  try clear c16b1
                  try clear c17
                  try clear c17b0
                  try clear c17b1
                  try clear p2
                  try clear p6
                  obtain ⟨kq, x17_13, rfl, HA, HJ13, ⟨mc13, rfl⟩⟩ := hcut
                  cases kq with
                  | zero => exact absurd HA.out (by simp [pumiceref04_Class.j2])
                  | succ kj13 =>
                    have H := HA.out
                    clear HA
                    simp only [pumiceref04_Class.j2] at H
                    by_cases c18 : x17_13 = true
                    · subst c18
                      have H1 : (some 3) = some r := by rw [if_pos rfl] at H; exact H
                      clear H
                      have H := H1
                      clear H1
                      obtain rfl := Option.some.inj H
                      go_wp2
                      go_ret
                      exact ⟨by first | rfl | exact isEmpty_bne_ _ | (simp; done) | (simp [*]; done) | (simp [wrap64]; done), by repeat (first | exact Drawn0.refl _ | apply Drawn0.step)⟩
                    · replace c18 := Bool.eq_false_iff.mpr c18
                      subst c18
                      have H1 : (if a0 = 1 then (pumiceref04_Class.j3 kj13 a0 (a0 == 1)) else (if a0 = 13 then (pumiceref04_Class.j3 kj13 a0 (a0 == 13)) else (pumiceref04_Class.j3 kj13 a0 (a0 == 30)))) = some r := by rw [if_neg (show ¬ (false = true) by decide)] at H; exact H
                      clear H
                      have H := H1
                      clear H1
                      have HC19 := Aside0.mk H
                      clear H
                      go_upto_if 22 with (fail)
                      go_cut [22] (fun v22 wc => ∃ (kq : Nat) (x22_18 : Bool), v22 = .bool x22_18 ∧ Aside0 (pumiceref04_Class.j3 kq a0 x22_18 = some r) ∧ Aside0 (kq ≤ kj13) ∧ Drawn0 w wc)
                      case first =>
                        have H := HC19.out
                        clear HC19
                        by_cases c20 : a0 = 1
                        · rw [if_pos c20] at H
                          have c20b0 : (a0 == 1) = true := beq_iff_eq.mpr c20
                          have c20b1 : (a0 != 1) = false := bne_eq_false_iff_eq.mpr c20
                          clear c20
                          (first | rw [c20b0] | (simp only [i64_w, i32_w]; rw [c20b0]) | skip)
                          have H' := Aside0.mk H
                          clear H
                          go_wp2
                          go_meet
                          case rel => exact ⟨_, ((a0 == 1)), (by first | rfl | (simp; done) | (simp [*]; done) | (simp [wrap64]; done)), H', ⟨by have := HJ2.out; have := HJ7.out; have := HJ13.out; first | omega | exact Nat.le_refl _⟩, by repeat (first | exact Drawn0.refl _ | apply Drawn0.step)⟩
                        · rw [if_neg c20] at H
                          have c20b0 : (a0 == 1) = false := beq_eq_false_iff_ne.mpr c20
                          have c20b1 : (a0 != 1) = true := bne_iff_ne.mpr c20
                          (first | rw [c20b0] | (simp only [i64_w, i32_w]; rw [c20b0]) | skip)
                          by_cases c21 : a0 = 13
                          · rw [if_pos c21] at H
                            have c21b0 : (a0 == 13) = true := beq_iff_eq.mpr c21
                            have c21b1 : (a0 != 13) = false := bne_eq_false_iff_eq.mpr c21
                            clear c21
                            have H' := Aside0.mk H
                            clear H
                            go_wp2
                            go_meet
                            case rel => exact ⟨_, ((a0 == 13)), (by first | rfl | (simp; done) | (simp [*]; done) | (simp [wrap64]; done)), H', ⟨by have := HJ2.out; have := HJ7.out; have := HJ13.out; first | omega | exact Nat.le_refl _⟩, by repeat (first | exact Drawn0.refl _ | apply Drawn0.step)⟩
                          · rw [if_neg c21] at H
                            have c21b0 : (a0 == 13) = false := beq_eq_false_iff_ne.mpr c21
                            have c21b1 : (a0 != 13) = true := bne_iff_ne.mpr c21
                            have H' := Aside0.mk H
                            clear H
                            go_wp2
                            go_meet
                            case rel => exact ⟨_, ((a0 == 30)), (by first | rfl | (simp; done) | (simp [*]; done) | (simp [wrap64]; done)), H', ⟨by have := HJ2.out; have := HJ7.out; have := HJ13.out; first | omega | exact Nat.le_refl _⟩, by repeat (first | exact Drawn0.refl _ | apply Drawn0.step)⟩
                      case rest =>
                        clear HC19
                        try clear c1
                        try clear c2
                        try clear c2b0
                        try clear c2b1
                        try clear p2
                        try clear c4
                        try clear c4b0
                        try clear c4b1
                        try clear c5
                        try clear c5b0
                        try clear c5b1
                        try clear c6
                        try clear c6b0
                        try clear c6b1
                        try clear p6
                        try clear c7
                        try clear c9
                        try clear c9b0
                        try clear c9b1
                        try clear c10
                        try clear c10b0
                        try clear c10b1
                        try clear c11
                        try clear c11b0
                        try clear c11b1
                        try clear c12
                        try clear c12b0
                        try clear c12b1
                        try clear c13
                        try clear c15
                        try clear c15b0
                        try clear c15b1
                        try clear c16
                        try clear c16b0
                        try clear c16b1
                        try clear c17
                        try clear c17b0
                        try clear c17b1
                        try clear c18
                        try clear c20
                        try clear c20b0
                        try clear c20b1
                        try clear c21
                        try clear c21b0
                        try clear c21b1
                        try clear p2
                        try clear p6
                        obtain ⟨kq, x22_18, rfl, HA, HJ18, ⟨mc18, rfl⟩⟩ := hcut
                        cases kq with
                        | zero => exact absurd HA.out (by simp [pumiceref04_Class.j3])
                        | succ kj18 =>
                          have H := HA.out
                          clear HA
                          simp only [pumiceref04_Class.j3] at H
                          by_cases c22 : x22_18 = true
                          · subst c22
                            have H1 : (some 4) = some r := by rw [if_pos rfl] at H; exact H
                            clear H
                            have H := H1
                            clear H1
                            obtain rfl := Option.some.inj H
                            go_wp2
                            go_ret
                            exact ⟨by first | rfl | exact isEmpty_bne_ _ | (simp; done) | (simp [*]; done) | (simp [wrap64]; done), by repeat (first | exact Drawn0.refl _ | apply Drawn0.step)⟩
                          · replace c22 := Bool.eq_false_iff.mpr c22
                            subst c22
                            have H1 : (if a0 = 2 then (some 5) else (if a0 = 17 then (some 5) else (if a0 = 20 then (some 5) else (if a0 = 21 then (some 5) else (if a0 = 39 then (some 5) else (if a0 = 16 then (some 5) else (some 6))))))) = some r := by rw [if_neg (show ¬ (false = true) by decide)] at H; exact H
                            clear H
                            have H := H1
                            clear H1
                            by_cases c23 : a0 = 2
                            · rw [if_pos c23] at H
                              have c23b0 : (a0 == 2) = true := beq_iff_eq.mpr c23
                              have c23b1 : (a0 != 2) = false := bne_eq_false_iff_eq.mpr c23
                              clear c23
                              obtain rfl := Option.some.inj H
                              go_wp2
                              go_ret
                              exact ⟨by first | rfl | exact isEmpty_bne_ _ | (simp; done) | (simp [*]; done) | (simp [wrap64]; done), by repeat (first | exact Drawn0.refl _ | apply Drawn0.step)⟩
                            · rw [if_neg c23] at H
                              have c23b0 : (a0 == 2) = false := beq_eq_false_iff_ne.mpr c23
                              have c23b1 : (a0 != 2) = true := bne_iff_ne.mpr c23
                              by_cases c24 : a0 = 17
                              · rw [if_pos c24] at H
                                have c24b0 : (a0 == 17) = true := beq_iff_eq.mpr c24
                                have c24b1 : (a0 != 17) = false := bne_eq_false_iff_eq.mpr c24
                                clear c24
                                obtain rfl := Option.some.inj H
                                go_wp2
                                go_ret
                                exact ⟨by first | rfl | exact isEmpty_bne_ _ | (simp; done) | (simp [*]; done) | (simp [wrap64]; done), by repeat (first | exact Drawn0.refl _ | apply Drawn0.step)⟩
                              · rw [if_neg c24] at H
                                have c24b0 : (a0 == 17) = false := beq_eq_false_iff_ne.mpr c24
                                have c24b1 : (a0 != 17) = true := bne_iff_ne.mpr c24
                                by_cases c25 : a0 = 20
                                · rw [if_pos c25] at H
                                  have c25b0 : (a0 == 20) = true := beq_iff_eq.mpr c25
                                  have c25b1 : (a0 != 20) = false := bne_eq_false_iff_eq.mpr c25
                                  clear c25
                                  obtain rfl := Option.some.inj H
                                  go_wp2
                                  go_ret
                                  exact ⟨by first | rfl | exact isEmpty_bne_ _ | (simp; done) | (simp [*]; done) | (simp [wrap64]; done), by repeat (first | exact Drawn0.refl _ | apply Drawn0.step)⟩
                                · rw [if_neg c25] at H
                                  have c25b0 : (a0 == 20) = false := beq_eq_false_iff_ne.mpr c25
                                  have c25b1 : (a0 != 20) = true := bne_iff_ne.mpr c25
                                  by_cases c26 : a0 = 21
                                  · rw [if_pos c26] at H
                                    have c26b0 : (a0 == 21) = true := beq_iff_eq.mpr c26
                                    have c26b1 : (a0 != 21) = false := bne_eq_false_iff_eq.mpr c26
                                    clear c26
                                    obtain rfl := Option.some.inj H
                                    go_wp2
                                    go_ret
                                    exact ⟨by first | rfl | exact isEmpty_bne_ _ | (simp; done) | (simp [*]; done) | (simp [wrap64]; done), by repeat (first | exact Drawn0.refl _ | apply Drawn0.step)⟩
                                  · rw [if_neg c26] at H
                                    have c26b0 : (a0 == 21) = false := beq_eq_false_iff_ne.mpr c26
                                    have c26b1 : (a0 != 21) = true := bne_iff_ne.mpr c26
                                    by_cases c27 : a0 = 39
                                    · rw [if_pos c27] at H
                                      have c27b0 : (a0 == 39) = true := beq_iff_eq.mpr c27
                                      have c27b1 : (a0 != 39) = false := bne_eq_false_iff_eq.mpr c27
                                      clear c27
                                      obtain rfl := Option.some.inj H
                                      go_wp2
                                      go_ret
                                      exact ⟨by first | rfl | exact isEmpty_bne_ _ | (simp; done) | (simp [*]; done) | (simp [wrap64]; done), by repeat (first | exact Drawn0.refl _ | apply Drawn0.step)⟩
                                    · rw [if_neg c27] at H
                                      have c27b0 : (a0 == 39) = false := beq_eq_false_iff_ne.mpr c27
                                      have c27b1 : (a0 != 39) = true := bne_iff_ne.mpr c27
                                      by_cases c28 : a0 = 16
                                      · rw [if_pos c28] at H
                                        have c28b0 : (a0 == 16) = true := beq_iff_eq.mpr c28
                                        have c28b1 : (a0 != 16) = false := bne_eq_false_iff_eq.mpr c28
                                        clear c28
                                        obtain rfl := Option.some.inj H
                                        go_wp2
                                        go_ret
                                        exact ⟨by first | rfl | exact isEmpty_bne_ _ | (simp; done) | (simp [*]; done) | (simp [wrap64]; done), by repeat (first | exact Drawn0.refl _ | apply Drawn0.step)⟩
                                      · rw [if_neg c28] at H
                                        have c28b0 : (a0 == 16) = false := beq_eq_false_iff_ne.mpr c28
                                        have c28b1 : (a0 != 16) = true := bne_iff_ne.mpr c28
                                        obtain rfl := Option.some.inj H
                                        go_wp2
                                        go_ret
                                        exact ⟨by first | rfl | exact isEmpty_bne_ _ | (simp; done) | (simp [*]; done) | (simp [wrap64]; done), by repeat (first | exact Drawn0.refl _ | apply Drawn0.step)⟩

end Go.Proofs.YtfmmmojlnfndkaaDoor.Q

namespace Go.Proofs.YtfmmmojlnfndkaaDoor.Q
open Go.RowKit Go.Proofs.YtfmmmojlnfndkaaDoorW.PrintWords Go.Proofs.YtfmmmojlnfndkaaDoorW.PrintLast Go.Proofs.YtfmmmojlnfndkaaDoorW.PrintMore
attribute [local go_sem] max2_int min2_int max_two min_two max_three min_three max_four min_four   -- for this text's walks alone
set_option linter.unusedVariables false
set_option linter.unusedSimpArgs false

/-! ### pumiceref04_Worse: function 31 -/
def pumiceref04_Worse.f (k : Nat) (a0 : Int) (a1 : Int) : Option (Int) := if a0 = 0 then (some a1) else (if a1 = 0 then (some a0) else ((pumiceref04_Class.f k a0).bind fun t118 => ((pumiceref04_Class.f k a1).bind fun t119 => (if t118 < t119 then (some a0) else (if t118 = t119 then (if a0 ≤ a1 then (some a0) else (some a1)) else (some a1))))))
theorem pumiceref04_Worse.mono : ∀ a0 a1 k, LeO (pumiceref04_Worse.f k a0 a1) (pumiceref04_Worse.f (k + 1) a0 a1) := by
  intro a0 a1 k
  unfold pumiceref04_Worse.f
  repeat' first
      | (with_reducible exact pumiceref04_Class.mono _ _)
      | (with_reducible exact LeO.refl _)
      | (with_reducible exact LeO.none _)
      | (with_reducible refine LeO.ite ?_ ?_)
      | (with_reducible refine LeO.bind ?_ (fun _ => ?_))
      | exact pumiceref04_Class.mono _ _
      | exact LeO.none _
      | refine LeO.ite ?_ ?_
      | refine LeO.bind ?_ (fun _ => ?_)
set_option maxHeartbeats 8000000 in
set_option maxRecDepth 100000 in
theorem pumiceref04_Worse.calls (k : Nat) (a0 : Int) (a1 : Int) (r : Int) (w : World) (h : pumiceref04_Worse.f k a0 a1 = some r) :
    Calls Tryd.prog 31 #[.int .i64 a0, .int .i64 a1] w fun e w' => e = .returned (.int .i64 r) ∧ Drawn0 w w' := by
  have H : (if a0 = 0 then (some a1) else (if a1 = 0 then (some a0) else ((pumiceref04_Class.f k a0).bind fun t118 => ((pumiceref04_Class.f k a1).bind fun t119 => (if t118 < t119 then (some a0) else (if t118 = t119 then (if a0 ≤ a1 then (some a0) else (some a1)) else (some a1))))))) = some r := h
  clear h
  by_cases c3 : a0 = 0
  · rw [if_pos c3] at H
    have c3b0 : (a0 == 0) = true := beq_iff_eq.mpr c3
    have c3b1 : (a0 != 0) = false := bne_eq_false_iff_eq.mpr c3
    clear c3
    obtain rfl := Option.some.inj H
    go_enter Tryd.func31, Tryd.ntmps31
    go_wp2
    go_ret
    exact ⟨by first | rfl | exact isEmpty_bne_ _ | (simp; done) | (simp [*]; done) | (simp [wrap64]; done), by repeat (first | exact Drawn0.refl _ | apply Drawn0.step)⟩
  · rw [if_neg c3] at H
    have c3b0 : (a0 == 0) = false := beq_eq_false_iff_ne.mpr c3
    have c3b1 : (a0 != 0) = true := bne_iff_ne.mpr c3
    by_cases c4 : a1 = 0
    · rw [if_pos c4] at H
      have c4b0 : (a1 == 0) = true := beq_iff_eq.mpr c4
      have c4b1 : (a1 != 0) = false := bne_eq_false_iff_eq.mpr c4
      clear c4
      obtain rfl := Option.some.inj H
      go_enter Tryd.func31, Tryd.ntmps31
      go_wp2
      go_ret
      exact ⟨by first | rfl | exact isEmpty_bne_ _ | (simp; done) | (simp [*]; done) | (simp [wrap64]; done), by repeat (first | exact Drawn0.refl _ | apply Drawn0.step)⟩
    · rw [if_neg c4] at H
      have c4b0 : (a1 == 0) = false := beq_eq_false_iff_ne.mpr c4
      have c4b1 : (a1 != 0) = true := bne_iff_ne.mpr c4
      replace H := Option.bind_eq_some_iff.mp H
      obtain ⟨t118, A50, H⟩ := H
      replace H : ((pumiceref04_Class.f k a1).bind fun t119 => (if t118 < t119 then (some a0) else (if t118 = t119 then (if a0 ≤ a1 then (some a0) else (some a1)) else (some a1)))) = some r := H
      have A5 := Aside0.mk A50
      clear A50
      replace H := Option.bind_eq_some_iff.mp H
      obtain ⟨t119, A60, H⟩ := H
      replace H : (if t118 < t119 then (some a0) else (if t118 = t119 then (if a0 ≤ a1 then (some a0) else (some a1)) else (some a1))) = some r := H
      have A6 := Aside0.mk A60
      clear A60
      by_cases c7 : t118 < t119
      · rw [if_pos c7] at H
        have c7b0 : decide (t118 < t119) = true := decide_eq_true c7
        clear c7
        obtain rfl := Option.some.inj H
        go_enter Tryd.func31, Tryd.ntmps31
        go_wp2_with (first | ((with_reducible refine gate_callee (f := 13) rfl ?_); refine goesL_ (some 14) rfl rfl Tryd.func13 (by kernel_rfl) rfl #[.int .i64 a0] rfl (by (try simp only [List.map_toArray, List.map_cons, List.map_nil]); first | done | rfl | (simp only [List.length_drop, List.length_take]; rfl)) ?_; (with_reducible refine (pumiceref04_Class.calls k a0 t118 _ A5.out).mono ?_); rintro e w' ⟨rfl, ⟨nd, rfl⟩⟩; refine ⟨_, rfl, ?_⟩) | ((with_reducible refine gate_callee (f := 13) rfl ?_); refine goesL_ (some 16) rfl rfl Tryd.func13 (by kernel_rfl) rfl #[.int .i64 a1] rfl (by (try simp only [List.map_toArray, List.map_cons, List.map_nil]); first | done | rfl | (simp only [List.length_drop, List.length_take]; rfl)) ?_; (with_reducible refine (pumiceref04_Class.calls k a1 t119 _ A6.out).mono ?_); rintro e w' ⟨rfl, ⟨nd, rfl⟩⟩; refine ⟨_, rfl, ?_⟩))
        go_ret
        exact ⟨by first | rfl | exact isEmpty_bne_ _ | (simp; done) | (simp [*]; done) | (simp [wrap64]; done), by repeat (first | exact Drawn0.refl _ | apply Drawn0.step)⟩
      · rw [if_neg c7] at H
        have c7b0 : decide (t118 < t119) = false := decide_eq_false c7
        clear c7
        by_cases c8 : t118 = t119
        · rw [if_pos c8] at H
          have c8b0 : (t118 == t119) = true := beq_iff_eq.mpr c8
          have c8b1 : (t118 != t119) = false := bne_eq_false_iff_eq.mpr c8
          clear c8
          by_cases c9 : a0 ≤ a1
          · rw [if_pos c9] at H
            have c9b0 : decide (a0 ≤ a1) = true := decide_eq_true c9
            clear c9
            obtain rfl := Option.some.inj H
            go_enter Tryd.func31, Tryd.ntmps31
            go_wp2_with (first | ((with_reducible refine gate_callee (f := 13) rfl ?_); refine goesL_ (some 14) rfl rfl Tryd.func13 (by kernel_rfl) rfl #[.int .i64 a0] rfl (by (try simp only [List.map_toArray, List.map_cons, List.map_nil]); first | done | rfl | (simp only [List.length_drop, List.length_take]; rfl)) ?_; (with_reducible refine (pumiceref04_Class.calls k a0 t118 _ A5.out).mono ?_); rintro e w' ⟨rfl, ⟨nd, rfl⟩⟩; refine ⟨_, rfl, ?_⟩) | ((with_reducible refine gate_callee (f := 13) rfl ?_); refine goesL_ (some 16) rfl rfl Tryd.func13 (by kernel_rfl) rfl #[.int .i64 a1] rfl (by (try simp only [List.map_toArray, List.map_cons, List.map_nil]); first | done | rfl | (simp only [List.length_drop, List.length_take]; rfl)) ?_; (with_reducible refine (pumiceref04_Class.calls k a1 t119 _ A6.out).mono ?_); rintro e w' ⟨rfl, ⟨nd, rfl⟩⟩; refine ⟨_, rfl, ?_⟩))
            go_ret
            exact ⟨by first | rfl | exact isEmpty_bne_ _ | (simp; done) | (simp [*]; done) | (simp [wrap64]; done), by repeat (first | exact Drawn0.refl _ | apply Drawn0.step)⟩
          · rw [if_neg c9] at H
            have c9b0 : decide (a0 ≤ a1) = false := decide_eq_false c9
            clear c9
            obtain rfl := Option.some.inj H
            go_enter Tryd.func31, Tryd.ntmps31
            go_wp2_with (first | ((with_reducible refine gate_callee (f := 13) rfl ?_); refine goesL_ (some 14) rfl rfl Tryd.func13 (by kernel_rfl) rfl #[.int .i64 a0] rfl (by (try simp only [List.map_toArray, List.map_cons, List.map_nil]); first | done | rfl | (simp only [List.length_drop, List.length_take]; rfl)) ?_; (with_reducible refine (pumiceref04_Class.calls k a0 t118 _ A5.out).mono ?_); rintro e w' ⟨rfl, ⟨nd, rfl⟩⟩; refine ⟨_, rfl, ?_⟩) | ((with_reducible refine gate_callee (f := 13) rfl ?_); refine goesL_ (some 16) rfl rfl Tryd.func13 (by kernel_rfl) rfl #[.int .i64 a1] rfl (by (try simp only [List.map_toArray, List.map_cons, List.map_nil]); first | done | rfl | (simp only [List.length_drop, List.length_take]; rfl)) ?_; (with_reducible refine (pumiceref04_Class.calls k a1 t119 _ A6.out).mono ?_); rintro e w' ⟨rfl, ⟨nd, rfl⟩⟩; refine ⟨_, rfl, ?_⟩))
            go_ret
            exact ⟨by first | rfl | exact isEmpty_bne_ _ | (simp; done) | (simp [*]; done) | (simp [wrap64]; done), by repeat (first | exact Drawn0.refl _ | apply Drawn0.step)⟩
        · rw [if_neg c8] at H
          have c8b0 : (t118 == t119) = false := beq_eq_false_iff_ne.mpr c8
          have c8b1 : (t118 != t119) = true := bne_iff_ne.mpr c8
          obtain rfl := Option.some.inj H
          go_enter Tryd.func31, Tryd.ntmps31
          go_wp2_with (first | ((with_reducible refine gate_callee (f := 13) rfl ?_); refine goesL_ (some 14) rfl rfl Tryd.func13 (by kernel_rfl) rfl #[.int .i64 a0] rfl (by (try simp only [List.map_toArray, List.map_cons, List.map_nil]); first | done | rfl | (simp only [List.length_drop, List.length_take]; rfl)) ?_; (with_reducible refine (pumiceref04_Class.calls k a0 t118 _ A5.out).mono ?_); rintro e w' ⟨rfl, ⟨nd, rfl⟩⟩; refine ⟨_, rfl, ?_⟩) | ((with_reducible refine gate_callee (f := 13) rfl ?_); refine goesL_ (some 16) rfl rfl Tryd.func13 (by kernel_rfl) rfl #[.int .i64 a1] rfl (by (try simp only [List.map_toArray, List.map_cons, List.map_nil]); first | done | rfl | (simp only [List.length_drop, List.length_take]; rfl)) ?_; (with_reducible refine (pumiceref04_Class.calls k a1 t119 _ A6.out).mono ?_); rintro e w' ⟨rfl, ⟨nd, rfl⟩⟩; refine ⟨_, rfl, ?_⟩))
          go_ret
          exact ⟨by first | rfl | exact isEmpty_bne_ _ | (simp; done) | (simp [*]; done) | (simp [wrap64]; done), by repeat (first | exact Drawn0.refl _ | apply Drawn0.step)⟩

/-! ### pumiceref04_Rows: function 33 -/
def pumiceref04_Rows.f  : Option ((List (S70))) := some (([(⟨0, (⟨#[79, 75]⟩ : ByteArray)⟩ : S70), (⟨1, (⟨#[69, 80, 69, 82, 77]⟩ : ByteArray)⟩ : S70), (⟨2, (⟨#[69, 78, 79, 69, 78, 84]⟩ : ByteArray)⟩ : S70), (⟨5, (⟨#[69, 73, 79]⟩ : ByteArray)⟩ : S70), (⟨6, (⟨#[69, 78, 88, 73, 79]⟩ : ByteArray)⟩ : S70), (⟨9, (⟨#[69, 66, 65, 68, 70]⟩ : ByteArray)⟩ : S70), (⟨13, (⟨#[69, 65, 67, 67, 69, 83]⟩ : ByteArray)⟩ : S70), (⟨14, (⟨#[69, 70, 65, 85, 76, 84]⟩ : ByteArray)⟩ : S70), (⟨16, (⟨#[69, 66, 85, 83, 89]⟩ : ByteArray)⟩ : S70), (⟨17, (⟨#[69, 69, 88, 73, 83, 84]⟩ : ByteArray)⟩ : S70), (⟨19, (⟨#[69, 78, 79, 68, 69, 86]⟩ : ByteArray)⟩ : S70), (⟨20, (⟨#[69, 78, 79, 84, 68, 73, 82]⟩ : ByteArray)⟩ : S70), (⟨21, (⟨#[69, 73, 83, 68, 73, 82]⟩ : ByteArray)⟩ : S70), (⟨22, (⟨#[69, 73, 78, 86, 65, 76]⟩ : ByteArray)⟩ : S70), (⟨24, (⟨#[69, 77, 70, 73, 76, 69]⟩ : ByteArray)⟩ : S70), (⟨27, (⟨#[69, 70, 66, 73, 71]⟩ : ByteArray)⟩ : S70), (⟨28, (⟨#[69, 78, 79, 83, 80, 67]⟩ : ByteArray)⟩ : S70), (⟨30, (⟨#[69, 82, 79, 70, 83]⟩ : ByteArray)⟩ : S70), (⟨31, (⟨#[69, 77, 76, 73, 78, 75]⟩ : ByteArray)⟩ : S70), (⟨36, (⟨#[69, 78, 65, 77, 69, 84, 79, 79, 76, 79, 78, 71]⟩ : ByteArray)⟩ : S70), (⟨39, (⟨#[69, 78, 79, 84, 69, 77, 80, 84, 89]⟩ : ByteArray)⟩ : S70), (⟨40, (⟨#[69, 76, 79, 79, 80]⟩ : ByteArray)⟩ : S70), (⟨117, (⟨#[69, 85, 67, 76, 69, 65, 78]⟩ : ByteArray)⟩ : S70)] : List (S70)))
set_option maxHeartbeats 8000000 in
set_option maxRecDepth 100000 in
theorem pumiceref04_Rows.calls  (r : List (S70)) (w : World) (h : pumiceref04_Rows.f  = some r) :
    Calls Tryd.prog 33 #[] w fun e w' => ∃ v0_ : Value, e = .returned (v0_) ∧ Kd.R k70 70 w' w.heap.size (fun _ => True) v0_ r ∧ Below w.heap.size w w' := by
  have hu70 := Tryd.underlying70
  have HB := Aside0.mk (Below.refl w.heap.size w)
  have H : (some (([(⟨0, (⟨#[79, 75]⟩ : ByteArray)⟩ : S70), (⟨1, (⟨#[69, 80, 69, 82, 77]⟩ : ByteArray)⟩ : S70), (⟨2, (⟨#[69, 78, 79, 69, 78, 84]⟩ : ByteArray)⟩ : S70), (⟨5, (⟨#[69, 73, 79]⟩ : ByteArray)⟩ : S70), (⟨6, (⟨#[69, 78, 88, 73, 79]⟩ : ByteArray)⟩ : S70), (⟨9, (⟨#[69, 66, 65, 68, 70]⟩ : ByteArray)⟩ : S70), (⟨13, (⟨#[69, 65, 67, 67, 69, 83]⟩ : ByteArray)⟩ : S70), (⟨14, (⟨#[69, 70, 65, 85, 76, 84]⟩ : ByteArray)⟩ : S70), (⟨16, (⟨#[69, 66, 85, 83, 89]⟩ : ByteArray)⟩ : S70), (⟨17, (⟨#[69, 69, 88, 73, 83, 84]⟩ : ByteArray)⟩ : S70), (⟨19, (⟨#[69, 78, 79, 68, 69, 86]⟩ : ByteArray)⟩ : S70), (⟨20, (⟨#[69, 78, 79, 84, 68, 73, 82]⟩ : ByteArray)⟩ : S70), (⟨21, (⟨#[69, 73, 83, 68, 73, 82]⟩ : ByteArray)⟩ : S70), (⟨22, (⟨#[69, 73, 78, 86, 65, 76]⟩ : ByteArray)⟩ : S70), (⟨24, (⟨#[69, 77, 70, 73, 76, 69]⟩ : ByteArray)⟩ : S70), (⟨27, (⟨#[69, 70, 66, 73, 71]⟩ : ByteArray)⟩ : S70), (⟨28, (⟨#[69, 78, 79, 83, 80, 67]⟩ : ByteArray)⟩ : S70), (⟨30, (⟨#[69, 82, 79, 70, 83]⟩ : ByteArray)⟩ : S70), (⟨31, (⟨#[69, 77, 76, 73, 78, 75]⟩ : ByteArray)⟩ : S70), (⟨36, (⟨#[69, 78, 65, 77, 69, 84, 79, 79, 76, 79, 78, 71]⟩ : ByteArray)⟩ : S70), (⟨39, (⟨#[69, 78, 79, 84, 69, 77, 80, 84, 89]⟩ : ByteArray)⟩ : S70), (⟨40, (⟨#[69, 76, 79, 79, 80]⟩ : ByteArray)⟩ : S70), (⟨117, (⟨#[69, 85, 67, 76, 69, 65, 78]⟩ : ByteArray)⟩ : S70)] : List (S70)))) = some r := h
  clear h
  obtain ⟨y120, hy120⟩ : ∃ y_ : List (S70), y_ = (([(⟨0, (⟨#[79, 75]⟩ : ByteArray)⟩ : S70), (⟨1, (⟨#[69, 80, 69, 82, 77]⟩ : ByteArray)⟩ : S70), (⟨2, (⟨#[69, 78, 79, 69, 78, 84]⟩ : ByteArray)⟩ : S70), (⟨5, (⟨#[69, 73, 79]⟩ : ByteArray)⟩ : S70), (⟨6, (⟨#[69, 78, 88, 73, 79]⟩ : ByteArray)⟩ : S70), (⟨9, (⟨#[69, 66, 65, 68, 70]⟩ : ByteArray)⟩ : S70), (⟨13, (⟨#[69, 65, 67, 67, 69, 83]⟩ : ByteArray)⟩ : S70), (⟨14, (⟨#[69, 70, 65, 85, 76, 84]⟩ : ByteArray)⟩ : S70), (⟨16, (⟨#[69, 66, 85, 83, 89]⟩ : ByteArray)⟩ : S70), (⟨17, (⟨#[69, 69, 88, 73, 83, 84]⟩ : ByteArray)⟩ : S70), (⟨19, (⟨#[69, 78, 79, 68, 69, 86]⟩ : ByteArray)⟩ : S70), (⟨20, (⟨#[69, 78, 79, 84, 68, 73, 82]⟩ : ByteArray)⟩ : S70), (⟨21, (⟨#[69, 73, 83, 68, 73, 82]⟩ : ByteArray)⟩ : S70), (⟨22, (⟨#[69, 73, 78, 86, 65, 76]⟩ : ByteArray)⟩ : S70), (⟨24, (⟨#[69, 77, 70, 73, 76, 69]⟩ : ByteArray)⟩ : S70), (⟨27, (⟨#[69, 70, 66, 73, 71]⟩ : ByteArray)⟩ : S70), (⟨28, (⟨#[69, 78, 79, 83, 80, 67]⟩ : ByteArray)⟩ : S70), (⟨30, (⟨#[69, 82, 79, 70, 83]⟩ : ByteArray)⟩ : S70), (⟨31, (⟨#[69, 77, 76, 73, 78, 75]⟩ : ByteArray)⟩ : S70), (⟨36, (⟨#[69, 78, 65, 77, 69, 84, 79, 79, 76, 79, 78, 71]⟩ : ByteArray)⟩ : S70), (⟨39, (⟨#[69, 78, 79, 84, 69, 77, 80, 84, 89]⟩ : ByteArray)⟩ : S70), (⟨40, (⟨#[69, 76, 79, 79, 80]⟩ : ByteArray)⟩ : S70), (⟨117, (⟨#[69, 85, 67, 76, 69, 65, 78]⟩ : ByteArray)⟩ : S70)] : List (S70))) := ⟨_, rfl⟩
  replace H : (some y120) = some r := by first | (rw [hy120]; with_reducible exact H) | (have H2_ := (Option.bind_some _ _).symm.trans H; rw [hy120]; with_reducible exact H2_) | (have H2_ := (Option.bind_some _ _).symm.trans H; with_reducible exact H2_) | with_reducible exact H | (rw [hy120]; exact H) | exact H
  have Ny120 := Aside0.mk hy120
  clear hy120
  obtain rfl := Option.some.inj H
  go_enter Tryd.func33, Tryd.ntmps33
  go_wp2_with (first | ((with_reducible refine gate_dst (N := 24) rfl ?_); refine Kd.R_lit k70 _ 70 ?hg (N := 24) ?hd (xs := ([(⟨0, (⟨#[79, 75]⟩ : ByteArray)⟩ : S70), (⟨1, (⟨#[69, 80, 69, 82, 77]⟩ : ByteArray)⟩ : S70), (⟨2, (⟨#[69, 78, 79, 69, 78, 84]⟩ : ByteArray)⟩ : S70), (⟨5, (⟨#[69, 73, 79]⟩ : ByteArray)⟩ : S70), (⟨6, (⟨#[69, 78, 88, 73, 79]⟩ : ByteArray)⟩ : S70), (⟨9, (⟨#[69, 66, 65, 68, 70]⟩ : ByteArray)⟩ : S70), (⟨13, (⟨#[69, 65, 67, 67, 69, 83]⟩ : ByteArray)⟩ : S70), (⟨14, (⟨#[69, 70, 65, 85, 76, 84]⟩ : ByteArray)⟩ : S70), (⟨16, (⟨#[69, 66, 85, 83, 89]⟩ : ByteArray)⟩ : S70), (⟨17, (⟨#[69, 69, 88, 73, 83, 84]⟩ : ByteArray)⟩ : S70), (⟨19, (⟨#[69, 78, 79, 68, 69, 86]⟩ : ByteArray)⟩ : S70), (⟨20, (⟨#[69, 78, 79, 84, 68, 73, 82]⟩ : ByteArray)⟩ : S70), (⟨21, (⟨#[69, 73, 83, 68, 73, 82]⟩ : ByteArray)⟩ : S70), (⟨22, (⟨#[69, 73, 78, 86, 65, 76]⟩ : ByteArray)⟩ : S70), (⟨24, (⟨#[69, 77, 70, 73, 76, 69]⟩ : ByteArray)⟩ : S70), (⟨27, (⟨#[69, 70, 66, 73, 71]⟩ : ByteArray)⟩ : S70), (⟨28, (⟨#[69, 78, 79, 83, 80, 67]⟩ : ByteArray)⟩ : S70), (⟨30, (⟨#[69, 82, 79, 70, 83]⟩ : ByteArray)⟩ : S70), (⟨31, (⟨#[69, 77, 76, 73, 78, 75]⟩ : ByteArray)⟩ : S70), (⟨36, (⟨#[69, 78, 65, 77, 69, 84, 79, 79, 76, 79, 78, 71]⟩ : ByteArray)⟩ : S70), (⟨39, (⟨#[69, 78, 79, 84, 69, 77, 80, 84, 89]⟩ : ByteArray)⟩ : S70), (⟨40, (⟨#[69, 76, 79, 79, 80]⟩ : ByteArray)⟩ : S70), (⟨117, (⟨#[69, 85, 67, 76, 69, 65, 78]⟩ : ByteArray)⟩ : S70)] : List (S70))) (inner := [.int .i64 0, .string (⟨#[79, 75]⟩ : ByteArray), .int .i64 1, .string (⟨#[69, 80, 69, 82, 77]⟩ : ByteArray), .int .i64 2, .string (⟨#[69, 78, 79, 69, 78, 84]⟩ : ByteArray), .int .i64 5, .string (⟨#[69, 73, 79]⟩ : ByteArray), .int .i64 6, .string (⟨#[69, 78, 88, 73, 79]⟩ : ByteArray), .int .i64 9, .string (⟨#[69, 66, 65, 68, 70]⟩ : ByteArray), .int .i64 13, .string (⟨#[69, 65, 67, 67, 69, 83]⟩ : ByteArray), .int .i64 14, .string (⟨#[69, 70, 65, 85, 76, 84]⟩ : ByteArray), .int .i64 16, .string (⟨#[69, 66, 85, 83, 89]⟩ : ByteArray), .int .i64 17, .string (⟨#[69, 69, 88, 73, 83, 84]⟩ : ByteArray), .int .i64 19, .string (⟨#[69, 78, 79, 68, 69, 86]⟩ : ByteArray), .int .i64 20, .string (⟨#[69, 78, 79, 84, 68, 73, 82]⟩ : ByteArray), .int .i64 21, .string (⟨#[69, 73, 83, 68, 73, 82]⟩ : ByteArray), .int .i64 22, .string (⟨#[69, 73, 78, 86, 65, 76]⟩ : ByteArray), .int .i64 24, .string (⟨#[69, 77, 70, 73, 76, 69]⟩ : ByteArray), .int .i64 27, .string (⟨#[69, 70, 66, 73, 71]⟩ : ByteArray), .int .i64 28, .string (⟨#[69, 78, 79, 83, 80, 67]⟩ : ByteArray), .int .i64 30, .string (⟨#[69, 82, 79, 70, 83]⟩ : ByteArray), .int .i64 31, .string (⟨#[69, 77, 76, 73, 78, 75]⟩ : ByteArray), .int .i64 36, .string (⟨#[69, 78, 65, 77, 69, 84, 79, 79, 76, 79, 78, 71]⟩ : ByteArray), .int .i64 39, .string (⟨#[69, 78, 79, 84, 69, 77, 80, 84, 89]⟩ : ByteArray), .int .i64 40, .string (⟨#[69, 76, 79, 79, 80]⟩ : ByteArray), .int .i64 117, .string (⟨#[69, 85, 67, 76, 69, 65, 78]⟩ : ByteArray)]) (ok := fun _ => True) (okp := fun _ => True) ?hr ?hp (fun _ hk => hk) trivial (Below.refl _ _) (Nat.le_refl _) (by simp) ?_; (case hd => rfl); (case hg => rfl); (case hr => first | (go_simp; done) | (go_simp; rfl)); (case hp => exact (Reps.c2 (show Kd.M k70 _ _ _ (⟨0, (⟨#[79, 75]⟩ : ByteArray)⟩ : S70) [.int .i64 0, .string (⟨#[79, 75]⟩ : ByteArray)] from (k70_mkM _ _ _ (⟨0, (⟨#[79, 75]⟩ : ByteArray)⟩ : S70) )) (Reps.c2 (show Kd.M k70 _ _ _ (⟨1, (⟨#[69, 80, 69, 82, 77]⟩ : ByteArray)⟩ : S70) [.int .i64 1, .string (⟨#[69, 80, 69, 82, 77]⟩ : ByteArray)] from (k70_mkM _ _ _ (⟨1, (⟨#[69, 80, 69, 82, 77]⟩ : ByteArray)⟩ : S70) )) (Reps.c2 (show Kd.M k70 _ _ _ (⟨2, (⟨#[69, 78, 79, 69, 78, 84]⟩ : ByteArray)⟩ : S70) [.int .i64 2, .string (⟨#[69, 78, 79, 69, 78, 84]⟩ : ByteArray)] from (k70_mkM _ _ _ (⟨2, (⟨#[69, 78, 79, 69, 78, 84]⟩ : ByteArray)⟩ : S70) )) (Reps.c2 (show Kd.M k70 _ _ _ (⟨5, (⟨#[69, 73, 79]⟩ : ByteArray)⟩ : S70) [.int .i64 5, .string (⟨#[69, 73, 79]⟩ : ByteArray)] from (k70_mkM _ _ _ (⟨5, (⟨#[69, 73, 79]⟩ : ByteArray)⟩ : S70) )) (Reps.c2 (show Kd.M k70 _ _ _ (⟨6, (⟨#[69, 78, 88, 73, 79]⟩ : ByteArray)⟩ : S70) [.int .i64 6, .string (⟨#[69, 78, 88, 73, 79]⟩ : ByteArray)] from (k70_mkM _ _ _ (⟨6, (⟨#[69, 78, 88, 73, 79]⟩ : ByteArray)⟩ : S70) )) (Reps.c2 (show Kd.M k70 _ _ _ (⟨9, (⟨#[69, 66, 65, 68, 70]⟩ : ByteArray)⟩ : S70) [.int .i64 9, .string (⟨#[69, 66, 65, 68, 70]⟩ : ByteArray)] from (k70_mkM _ _ _ (⟨9, (⟨#[69, 66, 65, 68, 70]⟩ : ByteArray)⟩ : S70) )) (Reps.c2 (show Kd.M k70 _ _ _ (⟨13, (⟨#[69, 65, 67, 67, 69, 83]⟩ : ByteArray)⟩ : S70) [.int .i64 13, .string (⟨#[69, 65, 67, 67, 69, 83]⟩ : ByteArray)] from (k70_mkM _ _ _ (⟨13, (⟨#[69, 65, 67, 67, 69, 83]⟩ : ByteArray)⟩ : S70) )) (Reps.c2 (show Kd.M k70 _ _ _ (⟨14, (⟨#[69, 70, 65, 85, 76, 84]⟩ : ByteArray)⟩ : S70) [.int .i64 14, .string (⟨#[69, 70, 65, 85, 76, 84]⟩ : ByteArray)] from (k70_mkM _ _ _ (⟨14, (⟨#[69, 70, 65, 85, 76, 84]⟩ : ByteArray)⟩ : S70) )) (Reps.c2 (show Kd.M k70 _ _ _ (⟨16, (⟨#[69, 66, 85, 83, 89]⟩ : ByteArray)⟩ : S70) [.int .i64 16, .string (⟨#[69, 66, 85, 83, 89]⟩ : ByteArray)] from (k70_mkM _ _ _ (⟨16, (⟨#[69, 66, 85, 83, 89]⟩ : ByteArray)⟩ : S70) )) (Reps.c2 (show Kd.M k70 _ _ _ (⟨17, (⟨#[69, 69, 88, 73, 83, 84]⟩ : ByteArray)⟩ : S70) [.int .i64 17, .string (⟨#[69, 69, 88, 73, 83, 84]⟩ : ByteArray)] from (k70_mkM _ _ _ (⟨17, (⟨#[69, 69, 88, 73, 83, 84]⟩ : ByteArray)⟩ : S70) )) (Reps.c2 (show Kd.M k70 _ _ _ (⟨19, (⟨#[69, 78, 79, 68, 69, 86]⟩ : ByteArray)⟩ : S70) [.int .i64 19, .string (⟨#[69, 78, 79, 68, 69, 86]⟩ : ByteArray)] from (k70_mkM _ _ _ (⟨19, (⟨#[69, 78, 79, 68, 69, 86]⟩ : ByteArray)⟩ : S70) )) (Reps.c2 (show Kd.M k70 _ _ _ (⟨20, (⟨#[69, 78, 79, 84, 68, 73, 82]⟩ : ByteArray)⟩ : S70) [.int .i64 20, .string (⟨#[69, 78, 79, 84, 68, 73, 82]⟩ : ByteArray)] from (k70_mkM _ _ _ (⟨20, (⟨#[69, 78, 79, 84, 68, 73, 82]⟩ : ByteArray)⟩ : S70) )) (Reps.c2 (show Kd.M k70 _ _ _ (⟨21, (⟨#[69, 73, 83, 68, 73, 82]⟩ : ByteArray)⟩ : S70) [.int .i64 21, .string (⟨#[69, 73, 83, 68, 73, 82]⟩ : ByteArray)] from (k70_mkM _ _ _ (⟨21, (⟨#[69, 73, 83, 68, 73, 82]⟩ : ByteArray)⟩ : S70) )) (Reps.c2 (show Kd.M k70 _ _ _ (⟨22, (⟨#[69, 73, 78, 86, 65, 76]⟩ : ByteArray)⟩ : S70) [.int .i64 22, .string (⟨#[69, 73, 78, 86, 65, 76]⟩ : ByteArray)] from (k70_mkM _ _ _ (⟨22, (⟨#[69, 73, 78, 86, 65, 76]⟩ : ByteArray)⟩ : S70) )) (Reps.c2 (show Kd.M k70 _ _ _ (⟨24, (⟨#[69, 77, 70, 73, 76, 69]⟩ : ByteArray)⟩ : S70) [.int .i64 24, .string (⟨#[69, 77, 70, 73, 76, 69]⟩ : ByteArray)] from (k70_mkM _ _ _ (⟨24, (⟨#[69, 77, 70, 73, 76, 69]⟩ : ByteArray)⟩ : S70) )) (Reps.c2 (show Kd.M k70 _ _ _ (⟨27, (⟨#[69, 70, 66, 73, 71]⟩ : ByteArray)⟩ : S70) [.int .i64 27, .string (⟨#[69, 70, 66, 73, 71]⟩ : ByteArray)] from (k70_mkM _ _ _ (⟨27, (⟨#[69, 70, 66, 73, 71]⟩ : ByteArray)⟩ : S70) )) (Reps.c2 (show Kd.M k70 _ _ _ (⟨28, (⟨#[69, 78, 79, 83, 80, 67]⟩ : ByteArray)⟩ : S70) [.int .i64 28, .string (⟨#[69, 78, 79, 83, 80, 67]⟩ : ByteArray)] from (k70_mkM _ _ _ (⟨28, (⟨#[69, 78, 79, 83, 80, 67]⟩ : ByteArray)⟩ : S70) )) (Reps.c2 (show Kd.M k70 _ _ _ (⟨30, (⟨#[69, 82, 79, 70, 83]⟩ : ByteArray)⟩ : S70) [.int .i64 30, .string (⟨#[69, 82, 79, 70, 83]⟩ : ByteArray)] from (k70_mkM _ _ _ (⟨30, (⟨#[69, 82, 79, 70, 83]⟩ : ByteArray)⟩ : S70) )) (Reps.c2 (show Kd.M k70 _ _ _ (⟨31, (⟨#[69, 77, 76, 73, 78, 75]⟩ : ByteArray)⟩ : S70) [.int .i64 31, .string (⟨#[69, 77, 76, 73, 78, 75]⟩ : ByteArray)] from (k70_mkM _ _ _ (⟨31, (⟨#[69, 77, 76, 73, 78, 75]⟩ : ByteArray)⟩ : S70) )) (Reps.c2 (show Kd.M k70 _ _ _ (⟨36, (⟨#[69, 78, 65, 77, 69, 84, 79, 79, 76, 79, 78, 71]⟩ : ByteArray)⟩ : S70) [.int .i64 36, .string (⟨#[69, 78, 65, 77, 69, 84, 79, 79, 76, 79, 78, 71]⟩ : ByteArray)] from (k70_mkM _ _ _ (⟨36, (⟨#[69, 78, 65, 77, 69, 84, 79, 79, 76, 79, 78, 71]⟩ : ByteArray)⟩ : S70) )) (Reps.c2 (show Kd.M k70 _ _ _ (⟨39, (⟨#[69, 78, 79, 84, 69, 77, 80, 84, 89]⟩ : ByteArray)⟩ : S70) [.int .i64 39, .string (⟨#[69, 78, 79, 84, 69, 77, 80, 84, 89]⟩ : ByteArray)] from (k70_mkM _ _ _ (⟨39, (⟨#[69, 78, 79, 84, 69, 77, 80, 84, 89]⟩ : ByteArray)⟩ : S70) )) (Reps.c2 (show Kd.M k70 _ _ _ (⟨40, (⟨#[69, 76, 79, 79, 80]⟩ : ByteArray)⟩ : S70) [.int .i64 40, .string (⟨#[69, 76, 79, 79, 80]⟩ : ByteArray)] from (k70_mkM _ _ _ (⟨40, (⟨#[69, 76, 79, 79, 80]⟩ : ByteArray)⟩ : S70) )) (Reps.c2 (show Kd.M k70 _ _ _ (⟨117, (⟨#[69, 85, 67, 76, 69, 65, 78]⟩ : ByteArray)⟩ : S70) [.int .i64 117, .string (⟨#[69, 85, 67, 76, 69, 65, 78]⟩ : ByteArray)] from (k70_mkM _ _ _ (⟨117, (⟨#[69, 85, 67, 76, 69, 65, 78]⟩ : ByteArray)⟩ : S70) )) (Reps.none _ _))))))))))))))))))))))))); intro v121 w1 ho2 hb hg_ hnew_; clear hg_ hnew_; (first | rw [← Ny120.out] at ho2 | (simp only [Int.reduceToNat] at ho2; rw [← Ny120.out] at ho2)); have n0_ := Aside0.mk (Kd.R_lower ho2 (below_size (by repeat (first | (with_reducible first | exact HB.out | apply below_alloc | apply pw_below_drewN | apply below_drew1) | exact HB.out)))); have n1_ := Aside0.mk (below_step (by repeat (first | (with_reducible first | exact HB.out | apply below_alloc | apply pw_below_drewN | apply below_drew1) | exact HB.out)) hb); clear HB; have HO122 := n0_; have HB := n1_; clear n0_ n1_; clear hb ho2))
  go_ret
  exact ⟨_, by first | rfl | (simp [errW_none, errW_some] <;> rfl) | (simp [*, errW_none, errW_some] <;> rfl), by (with_reducible repeat (first | apply Kd.R_alloc | apply Kd.R_drewN | apply Kd.R_drew)); exact HO122.out, by repeat (first | (with_reducible first | exact HB.out | apply below_alloc | apply pw_below_drewN | apply below_drew1) | exact HB.out)⟩

/-! ### pumiceref04_Find: function 11 -/
def pumiceref04_Find.l0 : Nat → ByteArray → List (S70) → Int → Option (Int × Bool)
  | 0, _, _, _ => none
  | k + 1, x0, x4, x5 => if x5 < (x4.length : Int) then (if 0 ≤ x5 then (if ((rd_T70 x4 x5).f1).toList = x0.toList then (some ((rd_T70 x4 x5).f0, true)) else (pumiceref04_Find.l0 k x0 x4 (wrap64 (x5 + 1)))) else (none)) else (some (0, false))
def pumiceref04_Find.f (k : Nat) (a0 : ByteArray) : Option (Int × Bool) := (pumiceref04_Rows.f).bind fun t123 => (pumiceref04_Find.l0 k a0 t123 0)
theorem pumiceref04_Find.mono_l : ∀ k, (∀ y0 y1 y2, LeO (pumiceref04_Find.l0 k y0 y1 y2) (pumiceref04_Find.l0 (k + 1) y0 y1 y2))
  | 0 => fun _ _ _ r h => by simp [pumiceref04_Find.l0] at h
  | k + 1 => by
    have ih0 := pumiceref04_Find.mono_l k
    · intro y0 y1 y2
      unfold pumiceref04_Find.l0
      repeat' first
      | (with_reducible exact ih0 _ _ _)
      | (with_reducible exact LeO.refl _)
      | (with_reducible exact LeO.none _)
      | (with_reducible refine LeO.ite ?_ ?_)
      | (with_reducible refine LeO.bind ?_ (fun _ => ?_))
      | exact ih0 _ _ _
      | exact LeO.none _
      | refine LeO.ite ?_ ?_
      | refine LeO.bind ?_ (fun _ => ?_)
theorem pumiceref04_Find.mono : ∀ a0 k, LeO (pumiceref04_Find.f k a0) (pumiceref04_Find.f (k + 1) a0) := by
  intro a0 k
  have ih0 := pumiceref04_Find.mono_l k
  unfold pumiceref04_Find.f
  repeat' first
      | (with_reducible exact ih0 _ _ _)
      | (with_reducible exact LeO.refl _)
      | (with_reducible exact LeO.none _)
      | (with_reducible refine LeO.ite ?_ ?_)
      | (with_reducible refine LeO.bind ?_ (fun _ => ?_))
      | exact ih0 _ _ _
      | exact LeO.none _
      | refine LeO.ite ?_ ?_
      | refine LeO.bind ?_ (fun _ => ?_)
set_option maxHeartbeats 8000000 in
set_option maxRecDepth 100000 in
theorem pumiceref04_Find.calls (k : Nat) (a0 : ByteArray) (r1 : Int) (r2 : Bool) (w : World) (h : pumiceref04_Find.f k a0 = some (r1, r2)) :
    Calls Tryd.prog 11 #[.string a0] w fun e w' => e = .returned (.tuple #[.int .i64 r1, .bool r2]) ∧ Below w.heap.size w w' := by
  have HB := Aside0.mk (Below.refl w.heap.size w)
  have H : ((pumiceref04_Rows.f).bind fun t123 => (pumiceref04_Find.l0 k a0 t123 0)) = some (r1, r2) := h
  clear h
  replace H := Option.bind_eq_some_iff.mp H
  obtain ⟨t123, A20, H⟩ := H
  replace H : (pumiceref04_Find.l0 k a0 t123 0) = some (r1, r2) := H
  have A2 := Aside0.mk A20
  clear A20
  have H' := Aside0.mk H
  clear H
  go_enter Tryd.func11, Tryd.ntmps11
  go_wp2_with (first | ((with_reducible refine gate_callee (f := 33) rfl ?_); refine goesL_ (some 6) rfl rfl Tryd.func33 (by kernel_rfl) rfl #[] rfl (by (try simp only [List.map_toArray, List.map_cons, List.map_nil]); first | done | rfl | (simp only [List.length_drop, List.length_take]; rfl)) ?_; (with_reducible refine (pumiceref04_Rows.calls  t123 _ A2.out).mono ?_); rintro e w3 ⟨v124, rfl, ho0, hb⟩; refine ⟨_, rfl, ?_⟩; have n0_ := Aside0.mk (Kd.R_lower ho0 (below_size (by repeat (first | (with_reducible first | exact HB.out | apply below_alloc | apply pw_below_drewN | apply below_drew1) | exact HB.out)))); have n1_ := Aside0.mk (below_step (by repeat (first | (with_reducible first | exact HB.out | apply below_alloc | apply pw_below_drewN | apply below_drew1) | exact HB.out)) hb); clear HB; have HO125 := n0_; have HB := n1_; clear n0_ n1_; (try clear hb); (try clear hb2); (try clear hk); (try clear hi); (try clear ho0)))
  go_loopg [5] k (fun kq v5 w' => ∃ (x5_1 : Int), v5 = .int .i64 x5_1 ∧ Aside0 (pumiceref04_Find.l0 kq a0 t123 x5_1 = some (r1, r2)) ∧ Aside0 (kq ≤ k) ∧ Aside0 (Kd.R k70 70 w' w.heap.size (fun _ => True) v124 t123) ∧ Aside0 (Below w.heap.size w w'))
  case atStart => exact ⟨(0), (by first | rfl | (simp; done) | (simp [*]; done) | (simp [wrap64]; done)), H', ⟨Nat.le_refl _⟩, ⟨by (with_reducible repeat (first | apply Kd.R_alloc | apply Kd.R_drewN | apply Kd.R_drew)); exact HO125.out⟩, ⟨by repeat (first | (with_reducible first | exact HB.out | apply below_alloc | apply pw_below_drewN | apply below_drew1) | exact HB.out)⟩⟩
  case round =>
    clear H'
    try clear c1
    try clear p2
    try clear c3
    obtain ⟨x5_1, rfl, HA, HK1, HO_4, HB⟩ := hrel
    cases gk with
    | zero => exact absurd HA.out (by simp [pumiceref04_Find.l0])
    | succ k1 =>
      have H := HA.out
      clear HA
      simp only [pumiceref04_Find.l0] at H
      by_cases c4 : x5_1 < (t123.length : Int)
      · rw [if_pos c4] at H
        have c4b0 : decide (x5_1 < (t123.length : Int)) = true := decide_eq_true c4
        clear c4
        by_cases c5 : 0 ≤ x5_1
        · rw [if_pos c5] at H
          have c5b0 : decide (0 ≤ x5_1) = true := decide_eq_true c5
          clear c5
          by_cases c6 : ((rd_T70 t123 x5_1).f1).toList = a0.toList
          · rw [if_pos c6] at H
            have c6b0 : (((rd_T70 t123 x5_1).f1).toList == a0.toList) = true := beq_iff_eq.mpr c6
            have c6b1 : (((rd_T70 t123 x5_1).f1).toList != a0.toList) = false := bne_eq_false_iff_eq.mpr c6
            clear c6
            simp only [Option.some.injEq, Prod.mk.injEq] at H
            obtain ⟨rfl, rfl⟩ := H
            obtain ⟨Ao7, co7, eo7⟩ := Kd.R_slice HO_4.out
            subst eo7
            have p126 : 0 ≤ (x5_1 : Int) := of_decide_eq_true (by first | (with_reducible assumption) | assumption)
            have q126 : x5_1 < (t123.length : Int) := of_decide_eq_true (by first | (with_reducible assumption) | assumption)
            obtain ⟨ad126, e126, hx126_0, hx126_1⟩ := at_T70 (Kd.R_reads' HO_4.out).2.2 x5_1 p126 q126
            cases e126
            replace p126 := eq_true p126
            replace q126 := eq_true q126
            have p127 : 0 ≤ (x5_1 : Int) := of_decide_eq_true (by first | (with_reducible assumption) | assumption)
            have q127 : x5_1 < (t123.length : Int) := of_decide_eq_true (by first | (with_reducible assumption) | assumption)
            obtain ⟨ad127, e127, hx127_0, hx127_1⟩ := at_T70 (Kd.R_reads' HO_4.out).2.2 x5_1 p127 q127
            obtain rfl : ad126 = ad127 := (by injection e127)
            replace p127 := eq_true p127
            replace q127 := eq_true q127
            go_wp2
            go_ret2
            exact ⟨by first | rfl | exact isEmpty_bne_ _ | (simp [errW_none, errW_some] <;> rfl) | (simp [*, errW_none, errW_some] <;> rfl), by repeat (first | (with_reducible first | exact HB.out | apply below_alloc | apply pw_below_drewN | apply below_drew1) | exact HB.out)⟩
          · rw [if_neg c6] at H
            have c6b0 : (((rd_T70 t123 x5_1).f1).toList == a0.toList) = false := beq_eq_false_iff_ne.mpr c6
            have c6b1 : (((rd_T70 t123 x5_1).f1).toList != a0.toList) = true := bne_iff_ne.mpr c6
            have H' := Aside0.mk H
            clear H
            obtain ⟨Ao8, co8, eo8⟩ := Kd.R_slice HO_4.out
            subst eo8
            have p126 : 0 ≤ (x5_1 : Int) := of_decide_eq_true (by first | (with_reducible assumption) | assumption)
            have q126 : x5_1 < (t123.length : Int) := of_decide_eq_true (by first | (with_reducible assumption) | assumption)
            obtain ⟨ad126, e126, hx126_0, hx126_1⟩ := at_T70 (Kd.R_reads' HO_4.out).2.2 x5_1 p126 q126
            cases e126
            replace p126 := eq_true p126
            replace q126 := eq_true q126
            go_wp2
            go_roundg k1
            case measure => have := HK1.out; omega
            case rel => exact ⟨(wrap64 (x5_1 + 1)), (by first | rfl | (simp; done) | (simp [*]; done) | (simp [wrap64]; done)), H', ⟨by have := HK1.out; omega⟩, ⟨by (with_reducible repeat (first | apply Kd.R_alloc | apply Kd.R_drewN | apply Kd.R_drew)); exact HO_4.out⟩, ⟨by repeat (first | (with_reducible first | exact HB.out | apply below_alloc | apply pw_below_drewN | apply below_drew1) | exact HB.out)⟩⟩
        · rw [if_neg c5] at H
          exact absurd H (by simp)
      · rw [if_neg c4] at H
        have c4b0 : decide (x5_1 < (t123.length : Int)) = false := decide_eq_false c4
        clear c4
        simp only [Option.some.injEq, Prod.mk.injEq] at H
        obtain ⟨rfl, rfl⟩ := H
        obtain ⟨Ao9, co9, eo9⟩ := Kd.R_slice HO_4.out
        subst eo9
        go_wp2
        go_ret2
        exact ⟨by first | rfl | exact isEmpty_bne_ _ | (simp [errW_none, errW_some] <;> rfl) | (simp [*, errW_none, errW_some] <;> rfl), by repeat (first | (with_reducible first | exact HB.out | apply below_alloc | apply pw_below_drewN | apply below_drew1) | exact HB.out)⟩

end Go.Proofs.YtfmmmojlnfndkaaDoor.Q

namespace Go.Proofs.YtfmmmojlnfndkaaDoor.Q
open Go.RowKit Go.Proofs.YtfmmmojlnfndkaaDoorW.PrintWords Go.Proofs.YtfmmmojlnfndkaaDoorW.PrintLast Go.Proofs.YtfmmmojlnfndkaaDoor.As
set_option maxHeartbeats 1000000
set_option linter.unusedVariables false
set_option maxRecDepth 20000 in
theorem dec_a (n d c : Int) (x : UInt8) (w : World) (hq0 : (wrap64 (n.tdiv 10) != 0) = false) (hd : n.tmod 10 = d) (hc : wrap64 (48 + d) = c) (hx : c % 256 = (x.toNat : Int)) (hn : decide (n < 0) = false) :
    Calls Tryd.prog 35 #[.int .i64 n] w fun ev w' => ev = .returned (.string (⟨#[]⟩ ++ ⟨#[x]⟩)) ∧ Below w.heap.size w w' := by
  have hv : ∀ w : World, (convert 91 9 (.slice (some ⟨w.heap.size, 0, none⟩) 1 1)).run Tryd.prog (w.alloc (.cells #[.int .u8 (c % 256)] 5)) = .ok (.string ⟨#[x]⟩) (w.alloc (.cells #[.int .u8 (c % 256)] 5)) := by
    intro w; rw [hx]; exact conv1 w x 5 1
  clear hx
  go_enter Tryd.func35, Tryd.ntmps35
  go_upto_region 9 with (fail)
  all_goals (try go_wp2)
  all_goals (try go_ret)
  all_goals exact ⟨rfl, Below.alloc (Below.refl _ _) (Nat.le_refl _) _⟩
set_option maxRecDepth 20000 in
theorem dec_b (n d c m : Int) (x : UInt8) (w : World) (hq0 : (wrap64 (n.tdiv 10) != 0) = false) (hd : n.tmod 10 = d) (hm : wrap64 (-d) = m) (hc : wrap64 (48 + m) = c) (hx : c % 256 = (x.toNat : Int)) (hn : decide (n < 0) = true) :
    Calls Tryd.prog 35 #[.int .i64 n] w fun ev w' => ev = .returned (.string (⟨#[45]⟩ ++ ⟨#[x]⟩)) ∧ Below w.heap.size w w' := by
  have hv : ∀ w : World, (convert 91 9 (.slice (some ⟨w.heap.size, 0, none⟩) 1 1)).run Tryd.prog (w.alloc (.cells #[.int .u8 (c % 256)] 5)) = .ok (.string ⟨#[x]⟩) (w.alloc (.cells #[.int .u8 (c % 256)] 5)) := by
    intro w; rw [hx]; exact conv1 w x 5 1
  clear hx
  go_enter Tryd.func35, Tryd.ntmps35
  go_upto_region 9 with (fail)
  all_goals (try go_wp2)
  all_goals (try go_ret)
  all_goals exact ⟨rfl, Below.alloc (Below.refl _ _) (Nat.le_refl _) _⟩
set_option maxRecDepth 20000 in
theorem dec_c (n d c : Int) (x : UInt8) (w : World) (hq0 : (wrap64 (n.tdiv 10) != 0) = true) (hd : n.tmod 10 = d) (hc : wrap64 (48 + d) = c) (hx : c % 256 = (x.toNat : Int)) (hn : decide (n < 0) = false) (rest : ByteArray) (hr : rest.toList.isEmpty = false) (hs : ¬ 9223372036854775807 < rest.size + 1) (hI : Aside0 (∀ w, Calls Tryd.prog 35 #[.int .i64 (wrap64 (n.tdiv 10))] w fun ev w' => ev = .returned (.string rest) ∧ Below w.heap.size w w')) :
    Calls Tryd.prog 35 #[.int .i64 n] w fun ev w' => ev = .returned (.string (rest ++ ⟨#[x]⟩)) ∧ Below w.heap.size w w' := by
  have hv : ∀ w : World, (convert 91 9 (.slice (some ⟨w.heap.size, 0, none⟩) 1 1)).run Tryd.prog (w.alloc (.cells #[.int .u8 (c % 256)] 5)) = .ok (.string ⟨#[x]⟩) (w.alloc (.cells #[.int .u8 (c % 256)] 5)) := by
    intro w; rw [hx]; exact conv1 w x 5 1
  clear hx
  go_enter Tryd.func35, Tryd.ntmps35
  go_upto_region 9 with (first | ((with_reducible refine gate_callee (f := 35) rfl ?_); refine goesL_ (some 12) rfl rfl Tryd.func35 (by kernel_rfl) rfl #[.int .i64 (wrap64 (n.tdiv 10))] rfl (by (try simp only [List.map_toArray, List.map_cons, List.map_nil]); first | done | rfl) ?_; (with_reducible refine (hI.out w).mono ?_); rintro e' w' ⟨rfl, hb⟩; refine ⟨_, rfl, ?_⟩; have HB := Aside0.mk hb; clear hb))
  all_goals (try go_wp2)
  all_goals (try go_ret)
  all_goals exact ⟨rfl, Below.alloc HB.out HB.out.size _⟩
set_option maxRecDepth 20000 in
theorem dec_d (n d c m : Int) (x : UInt8) (w : World) (hq0 : (wrap64 (n.tdiv 10) != 0) = true) (hd : n.tmod 10 = d) (hm : wrap64 (-d) = m) (hc : wrap64 (48 + m) = c) (hx : c % 256 = (x.toNat : Int)) (hn : decide (n < 0) = true) (rest : ByteArray) (hr : rest.toList.isEmpty = false) (hs : ¬ 9223372036854775807 < rest.size + 1) (hI : Aside0 (∀ w, Calls Tryd.prog 35 #[.int .i64 (wrap64 (n.tdiv 10))] w fun ev w' => ev = .returned (.string rest) ∧ Below w.heap.size w w')) :
    Calls Tryd.prog 35 #[.int .i64 n] w fun ev w' => ev = .returned (.string (rest ++ ⟨#[x]⟩)) ∧ Below w.heap.size w w' := by
  have hv : ∀ w : World, (convert 91 9 (.slice (some ⟨w.heap.size, 0, none⟩) 1 1)).run Tryd.prog (w.alloc (.cells #[.int .u8 (c % 256)] 5)) = .ok (.string ⟨#[x]⟩) (w.alloc (.cells #[.int .u8 (c % 256)] 5)) := by
    intro w; rw [hx]; exact conv1 w x 5 1
  clear hx
  go_enter Tryd.func35, Tryd.ntmps35
  go_upto_region 9 with (first | ((with_reducible refine gate_callee (f := 35) rfl ?_); refine goesL_ (some 12) rfl rfl Tryd.func35 (by kernel_rfl) rfl #[.int .i64 (wrap64 (n.tdiv 10))] rfl (by (try simp only [List.map_toArray, List.map_cons, List.map_nil]); first | done | rfl) ?_; (with_reducible refine (hI.out w).mono ?_); rintro e' w' ⟨rfl, hb⟩; refine ⟨_, rfl, ?_⟩; have HB := Aside0.mk hb; clear hb))
  all_goals (try go_wp2)
  all_goals (try go_ret)
  all_goals exact ⟨rfl, Below.alloc HB.out HB.out.size _⟩

def dg (n : Int) : UInt8 := UInt8.ofNat (48 + (n.tmod 10).natAbs)
/-- The decimal digits. -/
def dec : Nat → Int → ByteArray
  | 0, _ => ⟨#[]⟩
  | k + 1, n => (if n.tdiv 10 = 0 then (if n < 0 then ⟨#[45]⟩ else ⟨#[]⟩) else dec k (n.tdiv 10)) ++ ⟨#[dg n]⟩
theorem dec_size : ∀ (k : Nat) (n : Int), (dec k n).size ≤ k + 1 := by
  intro k
  induction k with
  | zero => intro n; exact Nat.zero_le _
  | succ k ih =>
    intro n
    unfold dec
    rw [ByteArray.size_append]
    have h1 : (⟨#[dg n]⟩ : ByteArray).size = 1 := rfl
    have h2 : (⟨#[45]⟩ : ByteArray).size = 1 := rfl
    have h3 : (⟨#[]⟩ : ByteArray).size = 0 := rfl
    have h4 := ih (n.tdiv 10)
    split
    · split <;> omega
    · omega
theorem dec_ne (k : Nat) (n : Int) : (dec (k + 1) n).toList.isEmpty = false := by
  have h : (dec (k + 1) n).size ≠ 0 := by
    unfold dec
    rw [ByteArray.size_append]
    show _ + 1 ≠ 0
    omega
  rw [Lib.toList_data]
  have h2 : (dec (k + 1) n).data.toList.length ≠ 0 := by rw [Array.length_toList]; exact h
  cases hc : (dec (k + 1) n).data.toList with
  | nil => rw [hc] at h2; exact absurd rfl h2
  | cons a l => rfl
theorem w64 (n : Int) (h : -9223372036854775808 ≤ n ∧ n ≤ 9223372036854775807) : wrap64 n = n := by unfold wrap64; omega
theorem tqr (n : Int) : (0 ≤ n → n.tdiv 10 = n / 10 ∧ n.tmod 10 = n % 10) ∧ (n < 0 → n.tdiv 10 = -((-n) / 10) ∧ n.tmod 10 = -((-n) % 10)) := by
  refine ⟨fun h => ⟨Int.tdiv_eq_ediv_of_nonneg h, Int.tmod_eq_emod_of_nonneg h⟩, fun h => ?_⟩
  have h1 : n = -(-n) := by omega
  have h2 : (0 : Int) ≤ -n := by omega
  refine ⟨?_, ?_⟩
  · conv => lhs; rw [h1, Int.neg_tdiv, Int.tdiv_eq_ediv_of_nonneg h2]
  · conv => lhs; rw [h1, Int.neg_tmod, Int.tmod_eq_emod_of_nonneg h2]
theorem dg_toNat (n : Int) : ((dg n).toNat : Int) = 48 + (n.tmod 10).natAbs := by
  have h : (n.tmod 10).natAbs < 10 := by
    rcases Int.lt_or_le n 0 with h | h
    · rw [((tqr n).2 h).2]; omega
    · rw [((tqr n).1 h).2]; omega
  unfold dg
  rw [UInt8.toNat_ofNat']
  omega
theorem dec_base (k : Nat) (n : Int) (h0 : -9223372036854775808 ≤ n) (h1 : n ≤ 9223372036854775807) (hq0 : n.tdiv 10 = 0) (w : World) : Calls Tryd.prog 35 #[.int .i64 n] w fun ev w' => ev = .returned (.string (dec (k + 1) n)) ∧ Below w.heap.size w w' := by
  have hd := dg_toNat n
  have hq : (wrap64 (n.tdiv 10) != 0) = false := by rw [hq0, show wrap64 0 = 0 from by unfold wrap64; omega]; rfl
  by_cases hneg : n < 0
  · have hm := ((tqr n).2 hneg).2
    have h := dec_b n (n.tmod 10) (48 + (n.tmod 10).natAbs) (-(n.tmod 10)) (dg n) w hq rfl (w64 _ (by omega)) (by rw [w64 _ (by omega)]; omega) (by rw [hd]; omega) (by simpa using hneg)
    unfold dec
    rw [if_pos hq0, if_pos hneg]
    exact h
  · have hm := ((tqr n).1 (by omega)).2
    have h := dec_a n (n.tmod 10) (48 + (n.tmod 10).natAbs) (dg n) w hq rfl (by rw [w64 _ (by omega)]; omega) (by rw [hd]; omega) (by simpa using hneg)
    unfold dec
    rw [if_pos hq0, if_neg hneg]
    exact h
theorem dec_calls : ∀ (k : Nat) (n : Int), k ≤ 100 → n.natAbs < 10 ^ (k + 1) → -9223372036854775808 ≤ n → n ≤ 9223372036854775807 → ∀ w, Calls Tryd.prog 35 #[.int .i64 n] w fun ev w' => ev = .returned (.string (dec (k + 1) n)) ∧ Below w.heap.size w w' := by
  intro k
  induction k with
  | zero =>
    intro n hk hn h0 h1 w
    exact dec_base 0 n h0 h1 (by
      rcases Int.lt_or_le n 0 with h | h
      · rw [((tqr n).2 h).1]; omega
      · rw [((tqr n).1 h).1]; omega) w
  | succ k ih =>
    intro n hk hn h0 h1 w
    by_cases hq0 : n.tdiv 10 = 0
    · exact dec_base _ n h0 h1 hq0 w
    · have hd := dg_toNat n
      have hb : -9223372036854775808 ≤ n.tdiv 10 ∧ n.tdiv 10 ≤ 9223372036854775807 ∧ (n.tdiv 10).natAbs < 10 ^ (k + 1) := by
        rw [Nat.pow_succ] at hn
        rcases Int.lt_or_le n 0 with h | h
        · rw [((tqr n).2 h).1]; omega
        · rw [((tqr n).1 h).1]; omega
      have hqq : wrap64 (n.tdiv 10) = n.tdiv 10 := w64 _ ⟨hb.1, hb.2.1⟩
      have hI := ih (n.tdiv 10) (by omega) hb.2.2 hb.1 hb.2.1
      rw [← hqq] at hI
      have hI := Aside0.mk hI
      have hne : (wrap64 (n.tdiv 10) != 0) = true := by rw [hqq]; exact bne_iff_ne.mpr hq0
      rw [dec, if_neg hq0]
      have hr := dec_ne k (n.tdiv 10)
      rw [hqq] at hI
      rw [← hqq] at hI
      by_cases hneg : n < 0
      · have hm := ((tqr n).2 hneg).2
        have h := dec_d n (n.tmod 10) (48 + (n.tmod 10).natAbs) (-(n.tmod 10)) (dg n) w hne rfl (w64 _ (by omega)) (by rw [w64 _ (by omega)]; omega) (by rw [hd]; omega) (by simpa using hneg) _ (by rw [hqq]; exact hr) (by rw [hqq]; have := dec_size (k + 1) (n.tdiv 10); omega) hI
        rw [hqq] at h
        exact h
      · have hm := ((tqr n).1 (by omega)).2
        have h := dec_c n (n.tmod 10) (48 + (n.tmod 10).natAbs) (dg n) w hne rfl (by rw [w64 _ (by omega)]; omega) (by rw [hd]; omega) (by simpa using hneg) _ (by rw [hqq]; exact hr) (by rw [hqq]; have := dec_size (k + 1) (n.tdiv 10); omega) hI
        rw [hqq] at h
        exact h
def Decimal.f (a0 : Int) : Option ByteArray := if -9223372036854775808 ≤ a0 ∧ a0 ≤ 9223372036854775807 then some (dec 20 a0) else none
theorem Decimal.calls (a0 : Int) (r : ByteArray) (w : World) (h : Decimal.f a0 = some r) : Calls Tryd.prog 35 #[.int .i64 a0] w fun e w' => e = .returned (.string r) ∧ Below w.heap.size w w' := by
  unfold Decimal.f at h
  split at h
  · rename_i hh
    obtain rfl := Option.some.inj h
    exact dec_calls 19 a0 (by omega) (by omega) hh.1 hh.2 w
  · cases h
end Go.Proofs.YtfmmmojlnfndkaaDoor.Q

namespace Go.Proofs.YtfmmmojlnfndkaaDoor.Q
open Go.RowKit Go.Proofs.YtfmmmojlnfndkaaDoorW.PrintWords Go.Proofs.YtfmmmojlnfndkaaDoorW.PrintLast Go.Proofs.YtfmmmojlnfndkaaDoorW.PrintMore
attribute [local go_sem] max2_int min2_int max_two min_two max_three min_three max_four min_four   -- for this text's walks alone
set_option linter.unusedVariables false
set_option linter.unusedSimpArgs false

/-! ### pumiceref04_Name: function 15 -/
def pumiceref04_Name.l0 : Nat → Int → List (S70) → Int → Option (ByteArray)
  | 0, _, _, _ => none
  | k + 1, x0, x3, x4 => if x4 < (x3.length : Int) then (if 0 ≤ x4 then (if ((rd_T70 x3 x4).f0) = x0 then (some ((rd_T70 x3 x4).f1)) else (pumiceref04_Name.l0 k x0 x3 (wrap64 (x4 + 1)))) else (none)) else ((Decimal.f x0).bind fun t133 => (if 1 + t133.size ≤ 9223372036854775807 then (some ((⟨#[69]⟩ : ByteArray) ++ t133)) else (none)))
def pumiceref04_Name.f (k : Nat) (a0 : Int) : Option (ByteArray) := (pumiceref04_Rows.f).bind fun t128 => (pumiceref04_Name.l0 k a0 t128 0)
theorem pumiceref04_Name.mono_l : ∀ k, (∀ y0 y1 y2, LeO (pumiceref04_Name.l0 k y0 y1 y2) (pumiceref04_Name.l0 (k + 1) y0 y1 y2))
  | 0 => fun _ _ _ r h => by simp [pumiceref04_Name.l0] at h
  | k + 1 => by
    have ih0 := pumiceref04_Name.mono_l k
    · intro y0 y1 y2
      unfold pumiceref04_Name.l0
      repeat' first
      | (with_reducible exact ih0 _ _ _)
      | (with_reducible exact LeO.refl _)
      | (with_reducible exact LeO.none _)
      | (with_reducible refine LeO.ite ?_ ?_)
      | (with_reducible refine LeO.bind ?_ (fun _ => ?_))
      | exact ih0 _ _ _
      | exact LeO.none _
      | refine LeO.ite ?_ ?_
      | refine LeO.bind ?_ (fun _ => ?_)
theorem pumiceref04_Name.mono : ∀ a0 k, LeO (pumiceref04_Name.f k a0) (pumiceref04_Name.f (k + 1) a0) := by
  intro a0 k
  have ih0 := pumiceref04_Name.mono_l k
  unfold pumiceref04_Name.f
  repeat' first
      | (with_reducible exact ih0 _ _ _)
      | (with_reducible exact LeO.refl _)
      | (with_reducible exact LeO.none _)
      | (with_reducible refine LeO.ite ?_ ?_)
      | (with_reducible refine LeO.bind ?_ (fun _ => ?_))
      | exact ih0 _ _ _
      | exact LeO.none _
      | refine LeO.ite ?_ ?_
      | refine LeO.bind ?_ (fun _ => ?_)
set_option maxHeartbeats 8000000 in
set_option maxRecDepth 100000 in
theorem pumiceref04_Name.calls (k : Nat) (a0 : Int) (r : ByteArray) (w : World) (h : pumiceref04_Name.f k a0 = some r) :
    Calls Tryd.prog 15 #[.int .i64 a0] w fun e w' => e = .returned (.string r) ∧ Below w.heap.size w w' := by
  have HB := Aside0.mk (Below.refl w.heap.size w)
  have H : ((pumiceref04_Rows.f).bind fun t128 => (pumiceref04_Name.l0 k a0 t128 0)) = some r := h
  clear h
  replace H := Option.bind_eq_some_iff.mp H
  obtain ⟨t128, A20, H⟩ := H
  replace H : (pumiceref04_Name.l0 k a0 t128 0) = some r := H
  have A2 := Aside0.mk A20
  clear A20
  have H' := Aside0.mk H
  clear H
  go_enter Tryd.func15, Tryd.ntmps15
  go_wp2_with (first | ((with_reducible refine gate_callee (f := 33) rfl ?_); refine goesL_ (some 5) rfl rfl Tryd.func33 (by kernel_rfl) rfl #[] rfl (by (try simp only [List.map_toArray, List.map_cons, List.map_nil]); first | done | rfl | (simp only [List.length_drop, List.length_take]; rfl)) ?_; (with_reducible refine (pumiceref04_Rows.calls  t128 _ A2.out).mono ?_); rintro e w3 ⟨v129, rfl, ho0, hb⟩; refine ⟨_, rfl, ?_⟩; have n0_ := Aside0.mk (Kd.R_lower ho0 (below_size (by repeat (first | (with_reducible first | exact HB.out | apply below_alloc | apply pw_below_drewN | apply below_drew1) | exact HB.out)))); have n1_ := Aside0.mk (below_step (by repeat (first | (with_reducible first | exact HB.out | apply below_alloc | apply pw_below_drewN | apply below_drew1) | exact HB.out)) hb); clear HB; have HO130 := n0_; have HB := n1_; clear n0_ n1_; (try clear hb); (try clear hb2); (try clear hk); (try clear hi); (try clear ho0)))
  go_loopg [4] k (fun kq v4 w' => ∃ (x4_1 : Int), v4 = .int .i64 x4_1 ∧ Aside0 (pumiceref04_Name.l0 kq a0 t128 x4_1 = some r) ∧ Aside0 (kq ≤ k) ∧ Aside0 (Kd.R k70 70 w' w.heap.size (fun _ => True) v129 t128) ∧ Aside0 (Below w.heap.size w w'))
  case atStart => exact ⟨(0), (by first | rfl | (simp; done) | (simp [*]; done) | (simp [wrap64]; done)), H', ⟨Nat.le_refl _⟩, ⟨by (with_reducible repeat (first | apply Kd.R_alloc | apply Kd.R_drewN | apply Kd.R_drew)); exact HO130.out⟩, ⟨by repeat (first | (with_reducible first | exact HB.out | apply below_alloc | apply pw_below_drewN | apply below_drew1) | exact HB.out)⟩⟩
  case round =>
    clear H'
    try clear c1
    try clear p2
    try clear c3
    obtain ⟨x4_1, rfl, HA, HK1, HO_3, HB⟩ := hrel
    cases gk with
    | zero => exact absurd HA.out (by simp [pumiceref04_Name.l0])
    | succ k1 =>
      have H := HA.out
      clear HA
      simp only [pumiceref04_Name.l0] at H
      by_cases c4 : x4_1 < (t128.length : Int)
      · rw [if_pos c4] at H
        have c4b0 : decide (x4_1 < (t128.length : Int)) = true := decide_eq_true c4
        clear c4
        by_cases c5 : 0 ≤ x4_1
        · rw [if_pos c5] at H
          have c5b0 : decide (0 ≤ x4_1) = true := decide_eq_true c5
          clear c5
          by_cases c6 : ((rd_T70 t128 x4_1).f0) = a0
          · rw [if_pos c6] at H
            have c6b0 : (((rd_T70 t128 x4_1).f0) == a0) = true := beq_iff_eq.mpr c6
            have c6b1 : (((rd_T70 t128 x4_1).f0) != a0) = false := bne_eq_false_iff_eq.mpr c6
            clear c6
            obtain rfl := Option.some.inj H
            obtain ⟨Ao7, co7, eo7⟩ := Kd.R_slice HO_3.out
            subst eo7
            have p131 : 0 ≤ (x4_1 : Int) := of_decide_eq_true (by first | (with_reducible assumption) | assumption)
            have q131 : x4_1 < (t128.length : Int) := of_decide_eq_true (by first | (with_reducible assumption) | assumption)
            obtain ⟨ad131, e131, hx131_0, hx131_1⟩ := at_T70 (Kd.R_reads' HO_3.out).2.2 x4_1 p131 q131
            cases e131
            replace p131 := eq_true p131
            replace q131 := eq_true q131
            have p132 : 0 ≤ (x4_1 : Int) := of_decide_eq_true (by first | (with_reducible assumption) | assumption)
            have q132 : x4_1 < (t128.length : Int) := of_decide_eq_true (by first | (with_reducible assumption) | assumption)
            obtain ⟨ad132, e132, hx132_0, hx132_1⟩ := at_T70 (Kd.R_reads' HO_3.out).2.2 x4_1 p132 q132
            obtain rfl : ad131 = ad132 := (by injection e132)
            replace p132 := eq_true p132
            replace q132 := eq_true q132
            go_wp2
            go_ret
            exact ⟨by first | rfl | exact isEmpty_bne_ _ | (simp [errW_none, errW_some] <;> rfl) | (simp [*, errW_none, errW_some] <;> rfl), by repeat (first | (with_reducible first | exact HB.out | apply below_alloc | apply pw_below_drewN | apply below_drew1) | exact HB.out)⟩
          · rw [if_neg c6] at H
            have c6b0 : (((rd_T70 t128 x4_1).f0) == a0) = false := beq_eq_false_iff_ne.mpr c6
            have c6b1 : (((rd_T70 t128 x4_1).f0) != a0) = true := bne_iff_ne.mpr c6
            have H' := Aside0.mk H
            clear H
            obtain ⟨Ao8, co8, eo8⟩ := Kd.R_slice HO_3.out
            subst eo8
            have p131 : 0 ≤ (x4_1 : Int) := of_decide_eq_true (by first | (with_reducible assumption) | assumption)
            have q131 : x4_1 < (t128.length : Int) := of_decide_eq_true (by first | (with_reducible assumption) | assumption)
            obtain ⟨ad131, e131, hx131_0, hx131_1⟩ := at_T70 (Kd.R_reads' HO_3.out).2.2 x4_1 p131 q131
            cases e131
            replace p131 := eq_true p131
            replace q131 := eq_true q131
            go_wp2
            go_roundg k1
            case measure => have := HK1.out; omega
            case rel => exact ⟨(wrap64 (x4_1 + 1)), (by first | rfl | (simp; done) | (simp [*]; done) | (simp [wrap64]; done)), H', ⟨by have := HK1.out; omega⟩, ⟨by (with_reducible repeat (first | apply Kd.R_alloc | apply Kd.R_drewN | apply Kd.R_drew)); exact HO_3.out⟩, ⟨by repeat (first | (with_reducible first | exact HB.out | apply below_alloc | apply pw_below_drewN | apply below_drew1) | exact HB.out)⟩⟩
        · rw [if_neg c5] at H
          exact absurd H (by simp)
      · rw [if_neg c4] at H
        have c4b0 : decide (x4_1 < (t128.length : Int)) = false := decide_eq_false c4
        clear c4
        replace H := Option.bind_eq_some_iff.mp H
        obtain ⟨t133, A90, H⟩ := H
        replace H : (if 1 + t133.size ≤ 9223372036854775807 then (some ((⟨#[69]⟩ : ByteArray) ++ t133)) else (none)) = some r := H
        have A9 := Aside0.mk A90
        clear A90
        by_cases c10 : 1 + t133.size ≤ 9223372036854775807
        · rw [if_pos c10] at H
          have c10b0 := eq_true c10
          have c10b1 : decide (1 + t133.size ≤ 9223372036854775807) = true := decide_eq_true c10
          try have c10b2 : (9223372036854775807 < 1 + t133.size) = False := eq_false (Nat.not_lt.2 c10)
          try (have c10s := c10; simp [] at c10s)
          obtain rfl := Option.some.inj H
          obtain ⟨Ao11, co11, eo11⟩ := Kd.R_slice HO_3.out
          subst eo11
          go_wp2_with (first | ((with_reducible refine gate_callee (f := 35) rfl ?_); refine goesL_ (some 25) rfl rfl Tryd.func35 (by kernel_rfl) rfl #[.int .i64 a0] rfl (by (try simp only [List.map_toArray, List.map_cons, List.map_nil]); first | done | rfl | (simp only [List.length_drop, List.length_take]; rfl)) ?_; (with_reducible refine (Decimal.calls a0 t133 _ A9.out).mono ?_); rintro e w12 ⟨rfl, hb⟩; refine ⟨_, rfl, ?_⟩; have n0_ := Aside0.mk (Kd.R_below (by (with_reducible repeat (first | apply Kd.R_alloc | apply Kd.R_drewN | apply Kd.R_drew)); exact HO_3.out) hb); have n1_ := Aside0.mk (below_step (by repeat (first | (with_reducible first | exact HB.out | apply below_alloc | apply pw_below_drewN | apply below_drew1) | exact HB.out)) hb); clear HO_3; clear HB; have HO_3 := n0_; have HB := n1_; clear n0_ n1_; (try clear hb); (try clear hb2); (try clear hk); (try clear hi)))
          go_ret
          exact ⟨by first | rfl | exact isEmpty_bne_ _ | (simp [errW_none, errW_some] <;> rfl) | (simp [*, errW_none, errW_some] <;> rfl), by repeat (first | (with_reducible first | exact HB.out | apply below_alloc | apply pw_below_drewN | apply below_drew1) | exact HB.out)⟩
        · rw [if_neg c10] at H
          exact absurd H (by simp)

/-! ### pumiceref04_First: function 30 -/
def pumiceref04_First.l0 : Nat → List Int → Int → Option (Int × Int)
  | 0, _, _ => none
  | k + 1, x0, x4 => if x4 < (x0.length : Int) then (if 0 ≤ x4 then (if (rd x0 x4) = 0 then (pumiceref04_First.l0 k x0 (wrap64 (x4 + 1))) else (some (x4, rd x0 x4))) else (none)) else (some ((-1), 0))
def pumiceref04_First.f (k : Nat) (l0 : List Int) : Option (Int × Int) := pumiceref04_First.l0 k l0 0
theorem pumiceref04_First.mono_l : ∀ k, (∀ y0 y1, LeO (pumiceref04_First.l0 k y0 y1) (pumiceref04_First.l0 (k + 1) y0 y1))
  | 0 => fun _ _ r h => by simp [pumiceref04_First.l0] at h
  | k + 1 => by
    have ih0 := pumiceref04_First.mono_l k
    · intro y0 y1
      unfold pumiceref04_First.l0
      repeat' first
      | (with_reducible exact ih0 _ _)
      | (with_reducible exact LeO.refl _)
      | (with_reducible exact LeO.none _)
      | (with_reducible refine LeO.ite ?_ ?_)
      | (with_reducible refine LeO.bind ?_ (fun _ => ?_))
      | exact ih0 _ _
      | exact LeO.none _
      | refine LeO.ite ?_ ?_
      | refine LeO.bind ?_ (fun _ => ?_)
theorem pumiceref04_First.mono : ∀ a0 k, LeO (pumiceref04_First.f k a0) (pumiceref04_First.f (k + 1) a0) := by
  intro a0 k
  have ih0 := pumiceref04_First.mono_l k
  unfold pumiceref04_First.f
  repeat' first
      | (with_reducible exact ih0 _ _)
      | (with_reducible exact LeO.refl _)
      | (with_reducible exact LeO.none _)
      | (with_reducible refine LeO.ite ?_ ?_)
      | (with_reducible refine LeO.bind ?_ (fun _ => ?_))
      | exact ih0 _ _
      | exact LeO.none _
      | refine LeO.ite ?_ ?_
      | refine LeO.bind ?_ (fun _ => ?_)
set_option maxHeartbeats 8000000 in
set_option maxRecDepth 100000 in
theorem pumiceref04_First.calls (k : Nat) (A0 : Option Addr) (c0 : Nat) (l0 : List Int) (r1 : Int) (r2 : Int) (w : World) (hr0 : Kd.C (Kd.int .i64) w A0 l0.length l0) (hc0 : l0.length ≤ c0) (h : pumiceref04_First.f k l0 = some (r1, r2)) :
    Calls Tryd.prog 30 #[.slice A0 l0.length c0] w fun e w' => e = .returned (.tuple #[.int .i64 r1, .int .i64 r2]) ∧ Drawn0 w w' := by
  have HR0 := Aside0.mk hr0
  have HC0 := Aside0.mk hc0
  clear hr0 hc0
  have H : (pumiceref04_First.l0 k l0 0) = some (r1, r2) := h
  clear h
  have H' := Aside0.mk H
  clear H
  go_enter Tryd.func30, Tryd.ntmps30
  go_wp2
  repeat (go_quiet (fail); try go_wp2)
  go_loopg [4] k (fun kq v4 w' => ∃ (x4_1 : Int), v4 = .int .i64 x4_1 ∧ Aside0 (pumiceref04_First.l0 kq l0 x4_1 = some (r1, r2)) ∧ Aside0 (kq ≤ k) ∧ Drawn0 w w')
  case atStart => exact ⟨(0), (by first | rfl | (simp; done) | (simp [*]; done) | (simp [wrap64]; done)), H', ⟨Nat.le_refl _⟩, by repeat (first | exact Drawn0.refl _ | apply Drawn0.step)⟩
  case round =>
    clear H'
    obtain ⟨x4_1, rfl, HA, HK1, ⟨m1, rfl⟩⟩ := hrel
    cases gk with
    | zero => exact absurd HA.out (by simp [pumiceref04_First.l0])
    | succ k1 =>
      have H := HA.out
      clear HA
      simp only [pumiceref04_First.l0] at H
      by_cases c2 : x4_1 < (l0.length : Int)
      · rw [if_pos c2] at H
        have c2b0 : decide (x4_1 < (l0.length : Int)) = true := decide_eq_true c2
        clear c2
        by_cases c3 : 0 ≤ x4_1
        · rw [if_pos c3] at H
          have c3b0 : decide (0 ≤ x4_1) = true := decide_eq_true c3
          clear c3
          by_cases c4 : (rd l0 x4_1) = 0
          · rw [if_pos c4] at H
            have c4b0 : ((rd l0 x4_1) == 0) = true := beq_iff_eq.mpr c4
            have c4b1 : ((rd l0 x4_1) != 0) = false := bne_eq_false_iff_eq.mpr c4
            clear c4
            have H' := Aside0.mk H
            clear H
            have p134 : 0 ≤ (x4_1 : Int) := of_decide_eq_true (by first | (with_reducible assumption) | assumption)
            have q134 : x4_1 < (l0.length : Int) := of_decide_eq_true (by first | (with_reducible assumption) | assumption)
            obtain ⟨ad134, e134, hx134_0⟩ := Kd.at_int HR0.out x4_1 p134 q134
            cases e134
            replace p134 := eq_true p134
            replace q134 := eq_true q134
            go_wp2
            repeat (go_quiet (fail); try go_wp2)
            go_roundg k1
            case measure => have := HK1.out; omega
            case rel => exact ⟨(wrap64 (x4_1 + 1)), (by first | rfl | (simp; done) | (simp [*]; done) | (simp [wrap64]; done)), H', ⟨by have := HK1.out; omega⟩, by repeat (first | exact Drawn0.refl _ | apply Drawn0.step)⟩
          · rw [if_neg c4] at H
            have c4b0 : ((rd l0 x4_1) == 0) = false := beq_eq_false_iff_ne.mpr c4
            have c4b1 : ((rd l0 x4_1) != 0) = true := bne_iff_ne.mpr c4
            simp only [Option.some.injEq, Prod.mk.injEq] at H
            obtain ⟨rfl, rfl⟩ := H
            have p134 : 0 ≤ (x4_1 : Int) := of_decide_eq_true (by first | (with_reducible assumption) | assumption)
            have q134 : x4_1 < (l0.length : Int) := of_decide_eq_true (by first | (with_reducible assumption) | assumption)
            obtain ⟨ad134, e134, hx134_0⟩ := Kd.at_int HR0.out x4_1 p134 q134
            cases e134
            replace p134 := eq_true p134
            replace q134 := eq_true q134
            have p135 : 0 ≤ (x4_1 : Int) := of_decide_eq_true (by first | (with_reducible assumption) | assumption)
            have q135 : x4_1 < (l0.length : Int) := of_decide_eq_true (by first | (with_reducible assumption) | assumption)
            obtain ⟨ad135, e135, hx135_0⟩ := Kd.at_int HR0.out x4_1 p135 q135
            obtain rfl : ad134 = ad135 := (by injection e135)
            replace p135 := eq_true p135
            replace q135 := eq_true q135
            go_wp2
            repeat (go_quiet (fail); try go_wp2)
            go_ret2
            exact ⟨by first | rfl | exact isEmpty_bne_ _ | (simp; done) | (simp [*]; done) | (simp [wrap64]; done), by repeat (first | exact Drawn0.refl _ | apply Drawn0.step)⟩
        · rw [if_neg c3] at H
          exact absurd H (by simp)
      · rw [if_neg c2] at H
        have c2b0 : decide (x4_1 < (l0.length : Int)) = false := decide_eq_false c2
        clear c2
        simp only [Option.some.injEq, Prod.mk.injEq] at H
        obtain ⟨rfl, rfl⟩ := H
        go_wp2
        repeat (go_quiet (fail); try go_wp2)
        go_ret2
        exact ⟨by first | rfl | exact isEmpty_bne_ _ | (simp; done) | (simp [*]; done) | (simp [wrap64]; done), by repeat (first | exact Drawn0.refl _ | apply Drawn0.step)⟩

end Go.Proofs.YtfmmmojlnfndkaaDoor.Q

namespace Go.Proofs.YtfmmmojlnfndkaaDoor.As
open Go.RowKit Go.Proofs.YtfmmmojlnfndkaaDoorW.PrintWords Go.Proofs.YtfmmmojlnfndkaaDoorW.PrintLast Go.Extern.Stop Go.Stop Go.Extern Go.Proofs.YtfmmmojlnfndkaaDoor.Q
/-- Where alive stands: the variables laid, the block of the error as_ it was made. -/
def St (w0 : World) (b : Nat) (w : World) : Prop := Laid w ∧ w.heap[b]? = some (.cells #[.string ⟨#[111, 112, 101, 110]⟩, .string ⟨#[47, 97]⟩, .iface 22 (.int .i64 2)] 46) ∧ Below w0.heap.size w0 w
theorem St.on {w0 w w' : World} {b : Nat} (h : St w0 b w) (hb : Below w.heap.size w w') : St w0 b w' :=
  ⟨h.1.on hb, heap_below hb h.2.1, below_step h.2.2 hb⟩
theorem St.laid {w0 w : World} {b : Nat} (h : St w0 b w) : Laid w := h.1
theorem St.bel {w0 w : World} {b : Nat} (h : St w0 b w) : Below w0.heap.size w0 w := h.2.2
theorem St.c0 {w0 w : World} {b : Nat} (h : St w0 b w) : w.cell? ⟨b, 0, none⟩ = some (.string ⟨#[111, 112, 101, 110]⟩) := by simp only [World.cell?, h.2.1]; rfl
theorem St.c1 {w0 w : World} {b : Nat} (h : St w0 b w) : w.cell? ⟨b, 1, none⟩ = some (.string ⟨#[47, 97]⟩) := by simp only [World.cell?, h.2.1]; rfl
theorem St.c2 {w0 w : World} {b : Nat} (h : St w0 b w) : w.cell? ⟨b, 2, none⟩ = some (.iface 22 (.int .i64 2)) := by simp only [World.cell?, h.2.1]; rfl
theorem laid_pos {w : World} (h : Laid w) : 0 < w.heap.size := by
  rcases Nat.eq_zero_or_pos w.heap.size with h0 | h1
  · have := h.1; simp [World.cell?, h0] at this
  · exact h1
theorem asB (w0 w : World) (b : Nat) (h : St w0 b w) :
    Calls Tryd.prog 21 #[.iface 40 (.pointer (some ⟨b, 0, none⟩)), .iface 42 (.pointer (some ⟨w.heap.size, 0, none⟩))] (w.alloc (.cells #[.pointer none] 40)) fun ev w' => ev = .returned (.bool true) ∧ w'.cell? ⟨w.heap.size, 0, none⟩ = some (.pointer (some ⟨b, 0, none⟩)) ∧ St w0 b w' := by
  have h0 : (w.alloc (.cells #[.pointer none] 40)).cell? ⟨0, 0, none⟩ = some (.iface 93 (.agg #[.pointer (some ⟨4, 32, none⟩)])) := by
    rw [World.cell?_alloc_lt _ _ ⟨0, 0, none⟩ (laid_pos h.1)]; exact h.1.et
  have h1 : (w.alloc (.cells #[.pointer none] 40)).cell? ⟨w.heap.size, 0, none⟩ = some (.pointer none) := by simp
  have h2 : (w.alloc (.cells #[.pointer none] 40)).frozen? ⟨w.heap.size, 0, none⟩ = false := by
    have h := heap_new w (.cells #[.pointer none] 40)
    simp only [World.frozen?, h]
    rfl
  refine (as_hit40 ⟨b, 0, none⟩ ⟨w.heap.size, 0, none⟩ (.pointer none) (w.alloc (.cells #[.pointer none] 40)) h0 h1 h2).mono ?_
  rintro ev w' ⟨rfl, rfl⟩
  have hb : Below w.heap.size w ((((((w.alloc (.cells #[.pointer none] 40)).alloc (.cells #[.pointer (some ⟨w.heap.size, 0, none⟩)] 42)).alloc (.cells #[.pointer (some ⟨4, 42, none⟩), .pointer (some ⟨(w.alloc (.cells #[.pointer none] 40)).heap.size, 0, none⟩), .int .u64 150] 77)).alloc (.cells #[.pointer (some ⟨4, 42, none⟩), .pointer (some ⟨(w.alloc (.cells #[.pointer none] 40)).heap.size, 0, none⟩), .int .u64 150] 77)).alloc (.cells #[.pointer (some ⟨b, 0, none⟩)] 40)).setCell ⟨w.heap.size, 0, none⟩ (.pointer (some ⟨b, 0, none⟩))) := by
    refine Below.setCell (p := ⟨w.heap.size, 0, none⟩) ?_ (Nat.le_refl w.heap.size) _
    repeat (refine Below.alloc ?_ (by simp <;> omega) _)
    exact Below.refl _ _
  refine ⟨rfl, ?_, h.on hb⟩
  have hx := one_setCell (u := .pointer (some ⟨b, 0, none⟩)) (heap_old (.cells #[.pointer (some ⟨b, 0, none⟩)] 40) (heap_old (.cells #[.pointer (some ⟨4, 42, none⟩), .pointer (some ⟨(w.alloc (.cells #[.pointer none] 40)).heap.size, 0, none⟩), .int .u64 150] 77) (heap_old (.cells #[.pointer (some ⟨4, 42, none⟩), .pointer (some ⟨(w.alloc (.cells #[.pointer none] 40)).heap.size, 0, none⟩), .int .u64 150] 77) (heap_old (.cells #[.pointer (some ⟨w.heap.size, 0, none⟩)] 42) (heap_new w (.cells #[.pointer none] 40))))))
  simp only [World.cell?, hx]
  rfl
theorem wrap1 (w : World) (hL : Laid w) : Calls Tryd.prog 25 #[.string ⟨#[111, 112, 101, 110]⟩, .string ⟨#[47, 97]⟩, .iface 22 (.int .i64 2)] w fun ev w' => ∃ b, ev = .returned (.iface 40 (.pointer (some ⟨b, 0, none⟩))) ∧ St w b w' := by
  refine (wrapA _ _ 2 w (by decide) hL.et).mono ?_
  rintro ev w' ⟨b, rfl, h1, h2, h3⟩
  exact ⟨b, rfl, hL.on h3, h2, h3⟩
theorem find1 : fault_Find.f 40 ⟨#[69, 82, 79, 70, 83]⟩ = some (30, true) := by kernel_rfl
theorem name1 : fault_Name.f 40 40 = some ⟨#[69, 76, 79, 79, 80]⟩ := by kernel_rfl
end Go.Proofs.YtfmmmojlnfndkaaDoor.As

namespace Go.Proofs.YtfmmmojlnfndkaaDoor.Q
open Go.RowKit Go.Proofs.YtfmmmojlnfndkaaDoorW.PrintWords Go.Proofs.YtfmmmojlnfndkaaDoorW.PrintLast Go.Extern.Stop Go.Stop Go.Extern Go.Proofs.YtfmmmojlnfndkaaDoor.As
def alive.f : Option Bool := some true
theorem class1 : fault_Class.f 40 28 = some 3 := by kernel_rfl
set_option maxHeartbeats 4000000 in
set_option maxRecDepth 100000 in
theorem alive.calls (r : Bool) (w : World) (hL : Laid w) (h : alive.f = some r) : Calls Tryd.prog 16 #[] w fun e w' => e = .returned (.bool r) ∧ Below w.heap.size w w' := by
  obtain rfl : true = r := Option.some.inj h
  have HL := Aside0.mk hL
  clear hL h
  go_enter Tryd.func16, Tryd.ntmps16
  go_upto_region 5 with (first | ((with_reducible refine gate_callee (f := 25) rfl ?_); refine goesL_ (some 6) rfl rfl Tryd.func25 (by kernel_rfl) rfl #[.string ⟨#[111, 112, 101, 110]⟩, .string ⟨#[47, 97]⟩, .iface 22 (.int .i64 2)] rfl (by (try simp only [List.map_toArray, List.map_cons, List.map_nil]); first | done | rfl) ?_; (with_reducible refine (wrap1 w HL.out).mono ?_); rintro e' w' ⟨b, rfl, hs⟩; refine ⟨_, rfl, ?_⟩; have HS := Aside0.mk hs; clear hs) | ((with_reducible refine gate_callee (f := 10) rfl ?_); refine goesL_ (some 10) rfl rfl Tryd.func10 (by kernel_rfl) rfl #[.string ⟨#[69, 82, 79, 70, 83]⟩] rfl (by (try simp only [List.map_toArray, List.map_cons, List.map_nil]); first | done | rfl) ?_; (with_reducible refine (fault_Find.calls 40 _ _ _ _ find1).mono ?_); rintro e' w2 ⟨rfl, hb⟩; refine ⟨_, rfl, ?_⟩; have n0_ := Aside0.mk (HS.out.on (hb)); clear HS; have HS := n0_; clear n0_; clear hb))
  skip
  go_upto_region 6 with (fail)
  go_wp2_with (first | ((with_reducible refine gate_callee (f := 21) rfl ?_); refine goesL_ (some 15) rfl rfl Tryd.func21 (by kernel_rfl) rfl #[.iface 40 (.pointer (some ⟨b, 0, none⟩)), .iface 42 (.pointer (some ⟨w2.heap.size, 0, none⟩))] rfl (by (try simp only [List.map_toArray, List.map_cons, List.map_nil]); first | done | rfl) ?_; (with_reducible refine (asB w w2 b HS.out).mono ?_); rintro e' w' ⟨rfl, hc, hs⟩; refine ⟨_, rfl, ?_⟩; clear HS; have HS := Aside0.mk hs; clear hs) | ((with_reducible refine gate_callee (f := 22) rfl ?_); (refine gate_guard (by first | rfl | kernel_rfl) ?_); refine goesL_ (some 22) rfl rfl Tryd.func22 (by kernel_rfl) rfl #[.pointer (some ⟨b, 0, none⟩)] rfl (by (try simp only [List.map_toArray, List.map_cons, List.map_nil]); first | done | rfl) ?_; (with_reducible refine (text22 b _ HS.out.c0 HS.out.c1 HS.out.c2).mono ?_); rintro e' w' ⟨rfl, hb⟩; refine ⟨_, rfl, ?_⟩; have n0_ := Aside0.mk (HS.out.on (hb)); clear HS; have HS := n0_; clear n0_; clear hb) | ((with_reducible refine gate_callee (f := 18) rfl ?_); (refine gate_guard (by first | rfl | kernel_rfl) ?_); refine goesL_ (some 27) rfl rfl Tryd.func18 (by kernel_rfl) rfl #[.iface 40 (.pointer (some ⟨b, 0, none⟩))] rfl (by (try simp only [List.map_toArray, List.map_cons, List.map_nil]); first | done | rfl) ?_; (with_reducible refine (ofB_calls 2 b _ HS.out.c2 HS.out.laid.et).mono ?_); rintro e' w' ⟨rfl, hb⟩; refine ⟨_, rfl, ?_⟩; have n0_ := Aside0.mk (HS.out.on (hb)); clear HS; have HS := n0_; clear n0_; clear hb) | ((with_reducible refine gate_callee (f := 26) rfl ?_); (refine gate_guard (by first | rfl | kernel_rfl) ?_); refine goesL_ (some 33) rfl rfl Tryd.func26 (by kernel_rfl) rfl #[.iface 40 (.pointer (some ⟨b, 0, none⟩)), .iface 22 (.int .i64 2)] rfl (by (try simp only [List.map_toArray, List.map_cons, List.map_nil]); first | done | rfl) ?_; (with_reducible refine (isB 2 b _ HS.out.c2).mono ?_); rintro e' w' ⟨rfl, rfl⟩; refine ⟨_, rfl, ?_⟩) | ((with_reducible refine gate_callee (f := 25) rfl ?_); (refine gate_guard (by first | rfl | kernel_rfl) ?_); refine goesL_ (some 36) rfl rfl Tryd.func25 (by kernel_rfl) rfl #[.string ⟨#[120]⟩, .string ⟨#[121]⟩, .nilIface] rfl (by (try simp only [List.map_toArray, List.map_cons, List.map_nil]); first | done | rfl) ?_; (with_reducible refine (wrapNil _ _ _).mono ?_); rintro e' w' ⟨rfl, rfl⟩; refine ⟨_, rfl, ?_⟩) | ((with_reducible refine gate_callee (f := 25) rfl ?_); (refine gate_guard (by first | rfl | kernel_rfl) ?_); refine goesL_ (some 41) rfl rfl Tryd.func25 (by kernel_rfl) rfl #[.string ⟨#[120]⟩, .string ⟨#[121]⟩, .iface 22 (.int .i64 0)] rfl (by (try simp only [List.map_toArray, List.map_cons, List.map_nil]); first | done | rfl) ?_; (with_reducible refine (wrapOK _ _ _ HS.out.laid.et).mono ?_); rintro e' w' ⟨rfl, hb⟩; refine ⟨_, rfl, ?_⟩; have n0_ := Aside0.mk (HS.out.on (hb)); clear HS; have HS := n0_; clear n0_; clear hb) | ((with_reducible refine gate_callee (f := 12) rfl ?_); (refine gate_guard (by first | rfl | kernel_rfl) ?_); refine goesL_ (some 45) rfl rfl Tryd.func12 (by kernel_rfl) rfl #[.int .i64 28] rfl (by (try simp only [List.map_toArray, List.map_cons, List.map_nil]); first | done | rfl) ?_; (with_reducible refine (fault_Class.calls 40 28 3 _ class1).mono ?_); rintro e' w' ⟨rfl, hb⟩; refine ⟨_, rfl, ?_⟩; have n0_ := Aside0.mk (HS.out.on (hb.below)); clear HS; have HS := n0_; clear n0_; clear hb) | ((with_reducible refine gate_callee (f := 14) rfl ?_); (refine gate_guard (by first | rfl | kernel_rfl) ?_); refine goesL_ (some 49) rfl rfl Tryd.func14 (by kernel_rfl) rfl #[.int .i64 40] rfl (by (try simp only [List.map_toArray, List.map_cons, List.map_nil]); first | done | rfl) ?_; (with_reducible refine (fault_Name.calls 40 40 _ _ HS.out.laid name1).mono ?_); rintro e' w' ⟨rfl, hb⟩; refine ⟨_, rfl, ?_⟩; have n0_ := Aside0.mk (HS.out.on (hb)); clear HS; have HS := n0_; clear n0_; clear hb))
  all_goals (try go_wp2)
  all_goals (try go_ret)
  all_goals (exact ⟨rfl, HS.out.2.2⟩)
end Go.Proofs.YtfmmmojlnfndkaaDoor.Q
