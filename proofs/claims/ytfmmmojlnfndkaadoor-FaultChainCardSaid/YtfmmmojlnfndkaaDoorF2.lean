/- errors.As over a chain of errors, the target an errno; fault.Of. -/
import Derived.Test.YtfmmmojlnfndkaaDoorF1
namespace Go.Proofs.YtfmmmojlnfndkaaDoor.As
open Go.RowKit Go.Proofs.YtfmmmojlnfndkaaDoorW.PrintWords Go.Proofs.YtfmmmojlnfndkaaDoorW.PrintLast Go.Extern.Stop Go.Stop Go.Extern
set_option maxHeartbeats 4000000 in
set_option maxRecDepth 20000 in
theorem asCh (v : Value) (n : Nat) (r : Option Int) (l : List ByteArray) (t : Addr) (old : Value) (w : World) (hC : Ch w v n r l) (hg : w.cell? ⟨0, 0, none⟩ = some (.iface 93 (.agg #[.pointer (some ⟨4, 32, none⟩)]))) (ht0 : w.cell? t = some old) (hf0 : w.frozen? t = false) :
    Calls Tryd.prog 21 #[v, .iface 73 (.pointer (some t))] w (As40Post ((w.alloc (.cells #[.pointer (some t)] 73)).alloc (.cells #[.pointer (some ⟨4, 73, none⟩), .pointer (some ⟨w.heap.size, 0, none⟩), .int .u64 150] 77)) w.heap.size t r) := by
  have h37 := @run_callFunc_extern Tryd.prog 37 _ (fun args => ReflectliteValue.unpack (args.getD 0 (.tuple #[]))) Tryd.func37 (by kernel_rfl) (by kernel_rfl) (by kernel_rfl) (by kernel_rfl)
  have h38 := @run_callFunc_extern Tryd.prog 38 _ (ReflectliteValue.methodAny (ReflectliteValue.valueError "reflectlite.Value.Type" 0) (fun t _ _ _ => ReflectliteType.toType t)) Tryd.func38 (by kernel_rfl) (by kernel_rfl) (by kernel_rfl) (by kernel_rfl)
  have h39 := @run_callFunc_extern Tryd.prog 39 _ (ReflectliteValue.method (ReflectliteValue.valueError "reflectlite.Value.IsNil" 0) ReflectliteValue.isNil) Tryd.func39 (by kernel_rfl) (by kernel_rfl) (by kernel_rfl) (by kernel_rfl)
  have h74 := @run_callFunc_extern Tryd.prog 74 _ (ReflectliteType.abiMethod fun t => do pure (.int .u8 (← Rtype.kind t))) Tryd.func74 (by kernel_rfl) (by kernel_rfl) (by kernel_rfl) (by kernel_rfl)
  have h86 := @run_callFunc_extern Tryd.prog 86 _ (ReflectliteType.method ReflectliteType.elem) Tryd.func86 (by kernel_rfl) (by kernel_rfl) (by kernel_rfl) (by kernel_rfl)
  have h87 := @run_callFunc_extern Tryd.prog 87 _ (ReflectliteType.relation "Implements" ReflectliteType.implements_) Tryd.func87 (by kernel_rfl) (by kernel_rfl) (by kernel_rfl) (by kernel_rfl)
  have q0 := valueOf73
  have q1 := type73
  have q2 := methodKind
  have q3 := methodElem
  have q4 := methodImplements
  have q5 := kind73
  have q6 := kind22
  have q7 := elem73
  have q8 := implements22
  have n8 := isNil73 ⟨w.heap.size, 0, none⟩ t ((w.alloc (.cells #[.pointer (some t)] 73)).alloc (.cells #[.pointer (some ⟨4, 73, none⟩), .pointer (some ⟨w.heap.size, 0, none⟩), .int .u64 150] 77)) (by simp)
  have hlt : 0 < w.heap.size := World.block_lt_of_cell? w ⟨0, 0, none⟩ hg
  have htl : t.block < w.heap.size := World.block_lt_of_cell? w t ht0
  have hg2 : ((w.alloc (.cells #[.pointer (some t)] 73)).alloc (.cells #[.pointer (some ⟨4, 73, none⟩), .pointer (some ⟨w.heap.size, 0, none⟩), .int .u64 150] 77)).cell? ⟨0, 0, none⟩ = some (.iface 93 (.agg #[.pointer (some ⟨4, 32, none⟩)])) := by
    rw [World.cell?_alloc_lt _ _ ⟨0, 0, none⟩ (by simp), World.cell?_alloc_lt _ _ ⟨0, 0, none⟩ hlt]; exact hg
  have hp : ((w.alloc (.cells #[.pointer (some t)] 73)).alloc (.cells #[.pointer (some ⟨4, 73, none⟩), .pointer (some ⟨w.heap.size, 0, none⟩), .int .u64 150] 77)).cell? ⟨w.heap.size, 0, none⟩ = some (.pointer (some t)) := by
    rw [World.cell?_alloc_lt _ _ ⟨w.heap.size, 0, none⟩ (by simp)]; simp
  have ht2 : ((w.alloc (.cells #[.pointer (some t)] 73)).alloc (.cells #[.pointer (some ⟨4, 73, none⟩), .pointer (some ⟨w.heap.size, 0, none⟩), .int .u64 150] 77)).cell? t = some old := by
    rw [World.cell?_alloc_lt _ _ t (by simp; omega), World.cell?_alloc_lt _ _ t htl]; exact ht0
  have hf2 : ((w.alloc (.cells #[.pointer (some t)] 73)).alloc (.cells #[.pointer (some ⟨4, 73, none⟩), .pointer (some ⟨w.heap.size, 0, none⟩), .int .u64 150] 77)).frozen? t = false := by
    rw [World.frozen?_alloc_old _ _ t (by simp; omega), World.frozen?_alloc_old _ _ t (Nat.ne_of_lt htl)]; exact hf0
  have hb2 : Below w.heap.size w ((w.alloc (.cells #[.pointer (some t)] 73)).alloc (.cells #[.pointer (some ⟨4, 73, none⟩), .pointer (some ⟨w.heap.size, 0, none⟩), .int .u64 150] 77)) := Below.alloc (Below.alloc (Below.refl _ _) (Nat.le_refl _) _) (by simp) _
  have HA := as40 v n r l w.heap.size t old _ (hC.on hb2) hp ht2 hf2
  obtain ⟨tv, xv, hv⟩ := hC.iface
  clear hp ht2 hf2 hb2 hC
  subst hv
  rw [as40_eq] at HA ⊢
  obtain ⟨X, hX⟩ : ∃ X, X = AsEnd ((w.alloc (.cells #[.pointer (some t)] 73)).alloc (.cells #[.pointer (some ⟨4, 73, none⟩), .pointer (some ⟨w.heap.size, 0, none⟩), .int .u64 150] 77)) w.heap.size t r := ⟨_, rfl⟩
  rw [← hX] at HA ⊢
  obtain ⟨bb, hbb⟩ : ∃ bb, bb = r.isSome := ⟨_, rfl⟩
  rw [← hbb] at HA ⊢
  clear hX hbb
  go_enter Tryd.func21, Tryd.ntmps21
  go_wp2_with (fail)
  refine HA.mono ?_
  rintro ev w' ⟨rfl, rfl⟩
  all_goals (try go_wp2)
  go_ret
  exact ⟨rfl, rfl⟩
theorem asEnd_some (w : World) (e : Int) (X : World) (hX : X = AsEnd (((w.alloc (.cells #[.int .i64 0] 22)).alloc (.cells #[.pointer (some ⟨w.heap.size, 0, none⟩)] 73)).alloc (.cells #[.pointer (some ⟨4, 73, none⟩), .pointer (some ⟨(w.alloc (.cells #[.int .i64 0] 22)).heap.size, 0, none⟩), .int .u64 150] 77)) (w.alloc (.cells #[.int .i64 0] 22)).heap.size ⟨w.heap.size, 0, none⟩ (some e)) : X.cell? ⟨w.heap.size, 0, none⟩ = some (.int .i64 e) ∧ Below w.heap.size w X := by
  subst hX
  exact (post_of e w _ _ _ _).2
theorem asEnd_none (w : World) (X : World) (hX : X = AsEnd (((w.alloc (.cells #[.int .i64 0] 22)).alloc (.cells #[.pointer (some ⟨w.heap.size, 0, none⟩)] 73)).alloc (.cells #[.pointer (some ⟨4, 73, none⟩), .pointer (some ⟨(w.alloc (.cells #[.int .i64 0] 22)).heap.size, 0, none⟩), .int .u64 150] 77)) (w.alloc (.cells #[.int .i64 0] 22)).heap.size ⟨w.heap.size, 0, none⟩ none) : Below w.heap.size w X := by
  subst hX
  show Below _ _ (AsW _ _)
  unfold AsW
  repeat (refine Below.alloc ?_ (by simp <;> omega) _)
  exact Below.refl _ _
/-- What fault.Of tells of a chain. -/
def ofR : Option Int → Int
  | some e => e
  | none => 5
set_option maxRecDepth 20000 in
theorem ofCh (v : Value) (n : Nat) (r : Option Int) (l : List ByteArray) (w : World) (hC : Ch w v n r l) (hg : w.cell? ⟨0, 0, none⟩ = some (.iface 93 (.agg #[.pointer (some ⟨4, 32, none⟩)]))) :
    Calls Tryd.prog 18 #[v] w fun ev w' => ev = .returned (.int .i64 (ofR r)) ∧ Below w.heap.size w w' := by
  have hlt : 0 < w.heap.size := World.block_lt_of_cell? w ⟨0, 0, none⟩ hg
  have h0 : (w.alloc (.cells #[.int .i64 0] 22)).cell? ⟨0, 0, none⟩ = some (.iface 93 (.agg #[.pointer (some ⟨4, 32, none⟩)])) := by
    rw [World.cell?_alloc_lt _ _ ⟨0, 0, none⟩ hlt]; exact hg
  have h1 : (w.alloc (.cells #[.int .i64 0] 22)).cell? ⟨w.heap.size, 0, none⟩ = some (.int .i64 0) := by simp
  have hA := asCh v n r l ⟨w.heap.size, 0, none⟩ (.int .i64 0) (w.alloc (.cells #[.int .i64 0] 22)) (hC.on (Below.alloc (Below.refl _ _) (Nat.le_refl _) _)) h0 h1 (frz w 0)
  obtain ⟨tv, xv, hv⟩ := hC.iface
  subst hv
  clear hg h0 h1 hlt hC
  rw [as40_eq] at hA
  cases r with
  | some e =>
    obtain ⟨X, hX⟩ : ∃ X, X = AsEnd (((w.alloc (.cells #[.int .i64 0] 22)).alloc (.cells #[.pointer (some ⟨w.heap.size, 0, none⟩)] 73)).alloc (.cells #[.pointer (some ⟨4, 73, none⟩), .pointer (some ⟨(w.alloc (.cells #[.int .i64 0] 22)).heap.size, 0, none⟩), .int .u64 150] 77)) (w.alloc (.cells #[.int .i64 0] 22)).heap.size ⟨w.heap.size, 0, none⟩ (some e) := ⟨_, rfl⟩
    rw [← hX] at hA
    obtain ⟨hc, hb⟩ := asEnd_some w e X hX
    have HB := Aside0.mk hb
    clear hX hb
    go_enter Tryd.func18, Tryd.ntmps18
    go_wp2_with (first | ((with_reducible refine gate_callee (f := 21) rfl ?_); refine goesL_ (some 8) rfl rfl Tryd.func21 (by kernel_rfl) rfl #[.iface tv xv, .iface 73 (.pointer (some ⟨w.heap.size, 0, none⟩))] rfl (by (try simp only [List.map_toArray, List.map_cons, List.map_nil]); first | done | rfl) ?_; (with_reducible refine (hA).mono ?_); rintro e' w' ⟨rfl, rfl⟩; refine ⟨_, rfl, ?_⟩))
    all_goals (try go_wp2)
    all_goals (try (go_ret; exact ⟨rfl, HB.out⟩))
  | none =>
    obtain ⟨X, hX⟩ : ∃ X, X = AsEnd (((w.alloc (.cells #[.int .i64 0] 22)).alloc (.cells #[.pointer (some ⟨w.heap.size, 0, none⟩)] 73)).alloc (.cells #[.pointer (some ⟨4, 73, none⟩), .pointer (some ⟨(w.alloc (.cells #[.int .i64 0] 22)).heap.size, 0, none⟩), .int .u64 150] 77)) (w.alloc (.cells #[.int .i64 0] 22)).heap.size ⟨w.heap.size, 0, none⟩ none := ⟨_, rfl⟩
    rw [← hX] at hA
    have HB := Aside0.mk (asEnd_none w X hX)
    clear hX
    go_enter Tryd.func18, Tryd.ntmps18
    go_wp2_with (first | ((with_reducible refine gate_callee (f := 21) rfl ?_); refine goesL_ (some 8) rfl rfl Tryd.func21 (by kernel_rfl) rfl #[.iface tv xv, .iface 73 (.pointer (some ⟨w.heap.size, 0, none⟩))] rfl (by (try simp only [List.map_toArray, List.map_cons, List.map_nil]); first | done | rfl) ?_; (with_reducible refine (hA).mono ?_); rintro e' w' ⟨rfl, rfl⟩; refine ⟨_, rfl, ?_⟩))
    all_goals (try go_wp2)
    all_goals (try (go_ret; exact ⟨rfl, HB.out⟩))
theorem ofNil (w : World) : Calls Tryd.prog 18 #[.nilIface] w fun ev w' => ev = .returned (.int .i64 0) ∧ w' = w := by
  go_enter Tryd.func18, Tryd.ntmps18
  go_wp2
  go_ret
  exact ⟨rfl, rfl⟩
end Go.Proofs.YtfmmmojlnfndkaaDoor.As
