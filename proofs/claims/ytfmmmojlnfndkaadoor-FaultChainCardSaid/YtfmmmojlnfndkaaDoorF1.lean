/- errors.as over a chain of errors, the target an errno. -/
import Derived.Test.YtfmmmojlnfndkaaDoorF0
namespace Go.Proofs.YtfmmmojlnfndkaaDoor.As
open Go.RowKit Go.Proofs.YtfmmmojlnfndkaaDoorW.PrintWords Go.Proofs.YtfmmmojlnfndkaaDoorW.PrintLast Go.Extern.Stop Go.Stop Go.Extern
def AsW (w : World) (p : Nat) : World := w.alloc (.cells #[.pointer (some ⟨4, 73, none⟩), .pointer (some ⟨p, 0, none⟩), .int .u64 150] 77)
/-- How errors.as ends over a chain. -/
def As40Post (w : World) (p : Nat) (t : Addr) (r : Option Int) (ev : Ending) (w' : World) : Prop := match r with
  | some e => ev = .returned (.bool true) ∧ w' = ((AsW w p).alloc (.cells #[.int .i64 e] 22)).setCell t (.int .i64 e)
  | none => ev = .returned (.bool false) ∧ w' = AsW w p
def AsEnd (w : World) (p : Nat) (t : Addr) (r : Option Int) : World := match r with
  | some e => ((AsW w p).alloc (.cells #[.int .i64 e] 22)).setCell t (.int .i64 e)
  | none => AsW w p
theorem as40_eq (w : World) (p : Nat) (t : Addr) (r : Option Int) : As40Post w p t r = fun ev w' => ev = .returned (.bool r.isSome) ∧ w' = AsEnd w p t r := by
  cases r <;> rfl
set_option maxHeartbeats 4000000 in
set_option maxRecDepth 20000 in
theorem as40 (v : Value) (n : Nat) (r : Option Int) (l : List ByteArray) (p : Nat) (t : Addr) (old : Value) (w : World) (hC : Ch w v n r l) (hp : w.cell? ⟨p, 0, none⟩ = some (.pointer (some t))) (ht : w.cell? t = some old) (hf : w.frozen? t = false) :
    Calls Tryd.prog 40 #[v, .iface 73 (.pointer (some t)), (.agg #[.pointer (some ⟨4, 73, none⟩), .pointer (some ⟨p, 0, none⟩), .int .u64 150]), .iface 93 (.agg #[.pointer (some ⟨4, 22, none⟩)])] w (As40Post w p t r) := by
  have h42 := @run_callFunc_extern Tryd.prog 42 _ ReflectliteType.typeOf Tryd.func42 (by kernel_rfl) (by kernel_rfl) (by kernel_rfl) (by kernel_rfl)
  have h84 := @run_callFunc_extern Tryd.prog 84 _ (ReflectliteType.relation "AssignableTo" ReflectliteType.assignableTo) Tryd.func84 (by kernel_rfl) (by kernel_rfl) (by kernel_rfl) (by kernel_rfl)
  have h37 := @run_callFunc_extern Tryd.prog 37 _ (fun args => ReflectliteValue.unpack (args.getD 0 (.tuple #[]))) Tryd.func37 (by kernel_rfl) (by kernel_rfl) (by kernel_rfl) (by kernel_rfl)
  have h45 := @run_callFunc_extern Tryd.prog 45 _ (ReflectliteValue.method (ReflectliteValue.valueError "reflectlite.Value.Elem" 0) ReflectliteValue.elem) Tryd.func45 (by kernel_rfl) (by kernel_rfl) (by kernel_rfl) (by kernel_rfl)
  have h46 := @run_callFunc_extern Tryd.prog 46 _ ReflectliteValue.set Tryd.func46 (by kernel_rfl) (by kernel_rfl) (by kernel_rfl) (by kernel_rfl)
  have q1 := methodAssignableTo
  have t22 := typeOf22
  have a22 := assignable22_22
  have s22 := asAs22
  have t40 := typeOf40
  have a40 := assignable40_22
  have s40 := asAs40
  have t50 := typeOf50
  have a50 := assignable50_22
  have s50 := asAs50
  have t88 := typeOf88
  have a88 := assignable88_22
  have s88 := asAs88
  have u40 := asUn40
  have u50 := asUn50
  have u88 := asUn88
  have z88 := asUns88
  have m40 := methodUnwrap40
  have m50 := methodUnwrap50
  have q3 := valueOf22
  have hpl : p < w.heap.size := World.block_lt_of_cell? w ⟨p, 0, none⟩ hp
  have htl : t.block < w.heap.size := World.block_lt_of_cell? w t ht
  obtain ⟨W, hWe⟩ : ∃ W, W = AsW w p := ⟨_, rfl⟩
  have hp1 : W.cell? ⟨p, 0, none⟩ = some (.pointer (some t)) := by rw [hWe]; unfold AsW; rw [World.cell?_alloc_lt _ _ ⟨p, 0, none⟩ hpl]; exact hp
  have ht1 : W.cell? t = some old := by rw [hWe]; unfold AsW; rw [World.cell?_alloc_lt _ _ t htl]; exact ht
  have hf1 : W.frozen? t = false := by rw [hWe]; unfold AsW; rw [World.frozen?_alloc_old _ _ t (Nat.ne_of_lt htl)]; exact hf
  have hV0 : W.heap[w.heap.size]? = some (.cells #[.pointer (some ⟨4, 73, none⟩), .pointer (some ⟨p, 0, none⟩), .int .u64 150] 77) := by rw [hWe]; unfold AsW; exact heap_new w _
  have hV1 : W.cell? ⟨w.heap.size, 0, none⟩ = some (.pointer (some ⟨4, 73, none⟩)) := by simp only [World.cell?, hV0]; rfl
  have hV2 : W.cell? ⟨w.heap.size, 1, none⟩ = some (.pointer (some ⟨p, 0, none⟩)) := by simp only [World.cell?, hV0]; rfl
  have hV3 : W.cell? ⟨w.heap.size, 2, none⟩ = some (.int .u64 150) := by simp only [World.cell?, hV0]; rfl
  clear hV0
  have el := elemV73 ⟨p, 0, none⟩ t W hp1
  have hC1 : Ch W v n r l := hC.on (by rw [hWe]; unfold AsW; exact Below.alloc (Below.refl _ _) (Nat.le_refl _) _)
  have st : ∀ e : Int, (ReflectliteValue.set #[.agg #[.pointer (some ⟨4, 22, none⟩), .pointer (some t), .int .u64 386], .agg #[.pointer (some ⟨4, 22, none⟩), .pointer (some ⟨W.heap.size, 0, none⟩), .int .u64 130]]).run Tryd.prog (W.alloc (.cells #[.int .i64 e] 22)) = .ok (.tuple #[]) ((W.alloc (.cells #[.int .i64 e] 22)).setCell t (.int .i64 e)) := by
    intro e
    have htW : t.block < W.heap.size := World.block_lt_of_cell? W t ht1
    refine set22 t ⟨W.heap.size, 0, none⟩ e old (W.alloc (.cells #[.int .i64 e] 22)) ?_ ?_ ?_
    · have h := heap_new W (.cells #[.int .i64 e] 22); simp only [World.cell?, h]; rfl
    · rw [World.cell?_alloc_lt _ _ t htW]; exact ht1
    · rw [World.frozen?_alloc_old _ _ t (Nat.ne_of_lt htW)]; exact hf1
  have HC := Aside0.mk hC1
  clear hC hC1 hp ht hf
  go_enter Tryd.func40, Tryd.ntmps40
  have hWe2 := Aside0.mk hWe
  clear hpl htl
  go_wp2
  rw [show w.alloc (.cells #[.pointer (some ⟨4, 73, none⟩), .pointer (some ⟨p, 0, none⟩), .int .u64 150] 77) = W from hWe.symm]
  clear hWe
  go_loopw [0] (fun u wr => ∃ (m : Nat) (k : List ByteArray), wr = W ∧ Aside0 (Ch W u m r k)) (fun u _ => dep W u)
  case atStart => exact ⟨n, l, rfl, HC⟩
  case round =>
    obtain ⟨m, k, rfl, HC⟩ := hrel
    cases HC.out with
    | errno e =>
      have st1 := st e
      go_wp2
      go_ret
      exact ⟨rfl, by rw [hWe2.out]⟩
    | str b =>
      go_wp2
      go_ret
      exact ⟨rfl, hWe2.out⟩
    | bare b op c1 c2 =>
      go_wp2
      go_ret
      exact ⟨rfl, hWe2.out⟩
    | wrap b op v' m' r' k' c1 c2 c3 =>
      have HD := Aside0.mk c3
      obtain ⟨ty, x, hx⟩ := c3.iface
      subst hx
      have hm := Aside0.mk (dep_of c3)
      have hn := Aside0.mk (dep_of HC.out)
      clear c3 HC
      go_wp2
      go_roundw
      case rel => exact ⟨_, _, trivial, HD⟩
      case measure => show dep wr (Value.iface ty x) < _; rw [hm.out, hn.out]; omega
    | other b v' m' r' k' c1 c3 =>
      have HD := Aside0.mk c3
      obtain ⟨ty, x, hx⟩ := c3.iface
      subst hx
      have hm := Aside0.mk (dep_of c3)
      have hn := Aside0.mk (dep_of HC.out)
      clear c3 HC
      go_wp2
      go_roundw
      case rel => exact ⟨_, _, trivial, HD⟩
      case measure => show dep wr (Value.iface ty x) < _; rw [hm.out, hn.out]; omega
end Go.Proofs.YtfmmmojlnfndkaaDoor.As
