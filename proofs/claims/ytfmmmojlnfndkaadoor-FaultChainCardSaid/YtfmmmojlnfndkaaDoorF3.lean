/- errors.As over a chain of errors, the target a *fault.Error. -/
import Derived.Test.YtfmmmojlnfndkaaDoorF2
namespace Go.Proofs.YtfmmmojlnfndkaaDoor.As
open Go.RowKit Go.Proofs.YtfmmmojlnfndkaaDoorW.PrintWords Go.Proofs.YtfmmmojlnfndkaaDoorW.PrintLast Go.Extern.Stop Go.Stop Go.Extern
def AsV (w : World) (p : Nat) : World := w.alloc (.cells #[.pointer (some ⟨4, 42, none⟩), .pointer (some ⟨p, 0, none⟩), .int .u64 150] 77)
/-- The first *fault.Error of a chain: what it did, what it wraps. -/
def Top (w : World) (n : Nat) (r : Option Int) (op : ByteArray) (l : List ByteArray) (b : Nat) : Prop := w.cell? ⟨b, 0, none⟩ = some (.string op) ∧ ((w.cell? ⟨b, 2, none⟩ = some .nilIface ∧ l = [] ∧ r = none) ∨ ∃ v m, m < n ∧ w.cell? ⟨b, 2, none⟩ = some v ∧ Ch w v m r l)
def As42Post (w0 : World) (n : Nat) (w : World) (p : Nat) (t : Addr) (r : Option Int) (l : List ByteArray) (ev : Ending) (w' : World) : Prop := match l with
  | [] => ev = .returned (.bool false) ∧ w' = AsV w p
  | op :: l' => ∃ b, Top w0 n r op l' b ∧ ev = .returned (.bool true) ∧ w' = ((AsV w p).alloc (.cells #[.pointer (some ⟨b, 0, none⟩)] 40)).setCell t (.pointer (some ⟨b, 0, none⟩))
set_option maxHeartbeats 4000000 in
set_option maxRecDepth 20000 in
theorem as42 (w0 : World) (v : Value) (n : Nat) (r : Option Int) (l : List ByteArray) (p : Nat) (t : Addr) (old : Value) (w : World) (hC : Ch w0 v n r l) (h0 : Below w0.heap.size w0 w) (hp : w.cell? ⟨p, 0, none⟩ = some (.pointer (some t))) (ht : w.cell? t = some old) (hf : w.frozen? t = false) :
    Calls Tryd.prog 40 #[v, .iface 42 (.pointer (some t)), (.agg #[.pointer (some ⟨4, 42, none⟩), .pointer (some ⟨p, 0, none⟩), .int .u64 150]), .iface 93 (.agg #[.pointer (some ⟨4, 40, none⟩)])] w (As42Post w0 n w p t r l) := by
  have h42 := @run_callFunc_extern Tryd.prog 42 _ ReflectliteType.typeOf Tryd.func42 (by kernel_rfl) (by kernel_rfl) (by kernel_rfl) (by kernel_rfl)
  have h84 := @run_callFunc_extern Tryd.prog 84 _ (ReflectliteType.relation "AssignableTo" ReflectliteType.assignableTo) Tryd.func84 (by kernel_rfl) (by kernel_rfl) (by kernel_rfl) (by kernel_rfl)
  have h37 := @run_callFunc_extern Tryd.prog 37 _ (fun args => ReflectliteValue.unpack (args.getD 0 (.tuple #[]))) Tryd.func37 (by kernel_rfl) (by kernel_rfl) (by kernel_rfl) (by kernel_rfl)
  have h45 := @run_callFunc_extern Tryd.prog 45 _ (ReflectliteValue.method (ReflectliteValue.valueError "reflectlite.Value.Elem" 0) ReflectliteValue.elem) Tryd.func45 (by kernel_rfl) (by kernel_rfl) (by kernel_rfl) (by kernel_rfl)
  have h46 := @run_callFunc_extern Tryd.prog 46 _ ReflectliteValue.set Tryd.func46 (by kernel_rfl) (by kernel_rfl) (by kernel_rfl) (by kernel_rfl)
  have q1 := methodAssignableTo
  have t22 := typeOf22
  have a22 := assignable22_40
  have t40 := typeOf40
  have a40 := assignable40_40
  have t50 := typeOf50
  have a50 := assignable50_40
  have t88 := typeOf88
  have a88 := assignable88_40
  have s22 := asAs22
  have s50 := asAs50
  have s88 := asAs88
  have u22 := isUn22
  have z22 := isUns22
  have u50 := asUn50
  have u88 := asUn88
  have z88 := asUns88
  have m50 := methodUnwrap50
  have q3 := valueOf40
  have hpl : p < w.heap.size := World.block_lt_of_cell? w ⟨p, 0, none⟩ hp
  have htl : t.block < w.heap.size := World.block_lt_of_cell? w t ht
  obtain ⟨W, hWe⟩ : ∃ W, W = AsV w p := ⟨_, rfl⟩
  have hp1 : W.cell? ⟨p, 0, none⟩ = some (.pointer (some t)) := by rw [hWe]; unfold AsV; rw [World.cell?_alloc_lt _ _ ⟨p, 0, none⟩ hpl]; exact hp
  have ht1 : W.cell? t = some old := by rw [hWe]; unfold AsV; rw [World.cell?_alloc_lt _ _ t htl]; exact ht
  have hf1 : W.frozen? t = false := by rw [hWe]; unfold AsV; rw [World.frozen?_alloc_old _ _ t (Nat.ne_of_lt htl)]; exact hf
  have hV0 : W.heap[w.heap.size]? = some (.cells #[.pointer (some ⟨4, 42, none⟩), .pointer (some ⟨p, 0, none⟩), .int .u64 150] 77) := by rw [hWe]; unfold AsV; exact heap_new w _
  have hV1 : W.cell? ⟨w.heap.size, 0, none⟩ = some (.pointer (some ⟨4, 42, none⟩)) := by simp only [World.cell?, hV0]; rfl
  have hV2 : W.cell? ⟨w.heap.size, 1, none⟩ = some (.pointer (some ⟨p, 0, none⟩)) := by simp only [World.cell?, hV0]; rfl
  have hV3 : W.cell? ⟨w.heap.size, 2, none⟩ = some (.int .u64 150) := by simp only [World.cell?, hV0]; rfl
  clear hV0
  have el := elemV42 ⟨p, 0, none⟩ t W hp1
  have HB0 : Aside0 (Below w0.heap.size w0 W) := Aside0.mk (by rw [hWe]; unfold AsV; exact Below.alloc h0 h0.size _)
  have st : ∀ e : Addr, (ReflectliteValue.set #[.agg #[.pointer (some ⟨4, 40, none⟩), .pointer (some t), .int .u64 406], .agg #[.pointer (some ⟨4, 40, none⟩), .pointer (some ⟨W.heap.size, 0, none⟩), .int .u64 150]]).run Tryd.prog (W.alloc (.cells #[.pointer (some e)] 40)) = .ok (.tuple #[]) ((W.alloc (.cells #[.pointer (some e)] 40)).setCell t (.pointer (some e))) := by
    intro e
    have htW : t.block < W.heap.size := World.block_lt_of_cell? W t ht1
    refine set40 t ⟨W.heap.size, 0, none⟩ e old (W.alloc (.cells #[.pointer (some e)] 40)) ?_ ?_ ?_
    · have h := heap_new W (.cells #[.pointer (some e)] 40); simp only [World.cell?, h]; rfl
    · rw [World.cell?_alloc_lt _ _ t htW]; exact ht1
    · rw [World.frozen?_alloc_old _ _ t (Nat.ne_of_lt htW)]; exact hf1
  have HC := Aside0.mk hC
  clear hC hp ht hf h0
  go_enter Tryd.func40, Tryd.ntmps40
  have hWe2 := Aside0.mk hWe
  clear hpl htl
  go_wp2
  rw [show w.alloc (.cells #[.pointer (some ⟨4, 42, none⟩), .pointer (some ⟨p, 0, none⟩), .int .u64 150] 77) = W from hWe.symm]
  clear hWe
  go_loopw [0] (fun u wr => ∃ (m : Nat), wr = W ∧ m ≤ n ∧ Aside0 (Ch w0 u m r l)) (fun u _ => dep w0 u)
  case atStart => exact ⟨n, rfl, Nat.le_refl _, HC⟩
  case round =>
    obtain ⟨m, rfl, hmn, HC⟩ := hrel
    have HN := Aside0.mk hmn
    clear hmn
    cases HC.out with
    | errno e =>
      go_wp2
      go_ret
      exact ⟨rfl, hWe2.out⟩
    | str b =>
      go_wp2
      go_ret
      exact ⟨rfl, hWe2.out⟩
    | bare b op c1 c2 =>
      have HT : Aside0 (Top w0 n none op [] b) := Aside0.mk ⟨c1, .inl ⟨c2, rfl, rfl⟩⟩
      have st1 := st ⟨b, 0, none⟩
      clear c1 c2 HC
      go_wp2
      go_ret
      exact ⟨b, HT.out, rfl, by rw [hWe2.out]⟩
    | wrap b op v' m' r' k' c1 c2 c3 =>
      have HT : Aside0 (Top w0 n r op k' b) := Aside0.mk ⟨c1, .inr ⟨v', m', by have := HN.out; omega, c2, c3⟩⟩
      have st1 := st ⟨b, 0, none⟩
      clear c1 c2 c3 HC
      go_wp2
      go_ret
      exact ⟨b, HT.out, rfl, by rw [hWe2.out]⟩
    | other b v' m' r' k' c1 c3 =>
      have HD := Aside0.mk c3
      obtain ⟨ty, x, hx⟩ := c3.iface
      subst hx
      have hm := Aside0.mk (dep_of c3)
      have hn := Aside0.mk (dep_of HC.out)
      have c9 := cell_below HB0.out c1
      clear c3 HC c1
      go_wp2
      go_roundw
      case rel => exact ⟨_, trivial, by have := HN.out; omega, HD⟩
      case measure => show dep w0 (Value.iface ty x) < _; rw [hm.out, hn.out]; omega
set_option maxHeartbeats 4000000 in
set_option maxRecDepth 20000 in
theorem asCh42 (w0 : World) (v : Value) (n : Nat) (r : Option Int) (l : List ByteArray) (t : Addr) (old : Value) (w : World) (hC : Ch w0 v n r l) (h0 : Below w0.heap.size w0 w) (hg : w.cell? ⟨0, 0, none⟩ = some (.iface 93 (.agg #[.pointer (some ⟨4, 32, none⟩)]))) (ht0 : w.cell? t = some old) (hf0 : w.frozen? t = false) :
    Calls Tryd.prog 21 #[v, .iface 42 (.pointer (some t))] w (As42Post w0 n ((w.alloc (.cells #[.pointer (some t)] 42)).alloc (.cells #[.pointer (some ⟨4, 42, none⟩), .pointer (some ⟨w.heap.size, 0, none⟩), .int .u64 150] 77)) w.heap.size t r l) := by
  have h37 := @run_callFunc_extern Tryd.prog 37 _ (fun args => ReflectliteValue.unpack (args.getD 0 (.tuple #[]))) Tryd.func37 (by kernel_rfl) (by kernel_rfl) (by kernel_rfl) (by kernel_rfl)
  have h38 := @run_callFunc_extern Tryd.prog 38 _ (ReflectliteValue.methodAny (ReflectliteValue.valueError "reflectlite.Value.Type" 0) (fun t _ _ _ => ReflectliteType.toType t)) Tryd.func38 (by kernel_rfl) (by kernel_rfl) (by kernel_rfl) (by kernel_rfl)
  have h39 := @run_callFunc_extern Tryd.prog 39 _ (ReflectliteValue.method (ReflectliteValue.valueError "reflectlite.Value.IsNil" 0) ReflectliteValue.isNil) Tryd.func39 (by kernel_rfl) (by kernel_rfl) (by kernel_rfl) (by kernel_rfl)
  have h74 := @run_callFunc_extern Tryd.prog 74 _ (ReflectliteType.abiMethod fun t => do pure (.int .u8 (← Rtype.kind t))) Tryd.func74 (by kernel_rfl) (by kernel_rfl) (by kernel_rfl) (by kernel_rfl)
  have h86 := @run_callFunc_extern Tryd.prog 86 _ (ReflectliteType.method ReflectliteType.elem) Tryd.func86 (by kernel_rfl) (by kernel_rfl) (by kernel_rfl) (by kernel_rfl)
  have h87 := @run_callFunc_extern Tryd.prog 87 _ (ReflectliteType.relation "Implements" ReflectliteType.implements_) Tryd.func87 (by kernel_rfl) (by kernel_rfl) (by kernel_rfl) (by kernel_rfl)
  have q0 := valueOf42
  have q1 := type42
  have q2 := methodKind
  have q3 := methodElem
  have q4 := methodImplements
  have q5 := kind42
  have q6 := kind40
  have q7 := elem42
  have q8 := implements40
  have n8 := isNil42 ⟨w.heap.size, 0, none⟩ t ((w.alloc (.cells #[.pointer (some t)] 42)).alloc (.cells #[.pointer (some ⟨4, 42, none⟩), .pointer (some ⟨w.heap.size, 0, none⟩), .int .u64 150] 77)) (by simp)
  have hlt : 0 < w.heap.size := World.block_lt_of_cell? w ⟨0, 0, none⟩ hg
  have htl : t.block < w.heap.size := World.block_lt_of_cell? w t ht0
  have hg2 : ((w.alloc (.cells #[.pointer (some t)] 42)).alloc (.cells #[.pointer (some ⟨4, 42, none⟩), .pointer (some ⟨w.heap.size, 0, none⟩), .int .u64 150] 77)).cell? ⟨0, 0, none⟩ = some (.iface 93 (.agg #[.pointer (some ⟨4, 32, none⟩)])) := by
    rw [World.cell?_alloc_lt _ _ ⟨0, 0, none⟩ (by simp), World.cell?_alloc_lt _ _ ⟨0, 0, none⟩ hlt]; exact hg
  have hp : ((w.alloc (.cells #[.pointer (some t)] 42)).alloc (.cells #[.pointer (some ⟨4, 42, none⟩), .pointer (some ⟨w.heap.size, 0, none⟩), .int .u64 150] 77)).cell? ⟨w.heap.size, 0, none⟩ = some (.pointer (some t)) := by
    rw [World.cell?_alloc_lt _ _ ⟨w.heap.size, 0, none⟩ (by simp)]; simp
  have ht2 : ((w.alloc (.cells #[.pointer (some t)] 42)).alloc (.cells #[.pointer (some ⟨4, 42, none⟩), .pointer (some ⟨w.heap.size, 0, none⟩), .int .u64 150] 77)).cell? t = some old := by
    rw [World.cell?_alloc_lt _ _ t (by simp; omega), World.cell?_alloc_lt _ _ t htl]; exact ht0
  have hf2 : ((w.alloc (.cells #[.pointer (some t)] 42)).alloc (.cells #[.pointer (some ⟨4, 42, none⟩), .pointer (some ⟨w.heap.size, 0, none⟩), .int .u64 150] 77)).frozen? t = false := by
    rw [World.frozen?_alloc_old _ _ t (by simp; omega), World.frozen?_alloc_old _ _ t (Nat.ne_of_lt htl)]; exact hf0
  have hb2 : Below w.heap.size w ((w.alloc (.cells #[.pointer (some t)] 42)).alloc (.cells #[.pointer (some ⟨4, 42, none⟩), .pointer (some ⟨w.heap.size, 0, none⟩), .int .u64 150] 77)) := Below.alloc (Below.alloc (Below.refl _ _) (Nat.le_refl _) _) (by simp) _
  have HA := as42 w0 v n r l w.heap.size t old _ hC (below_step h0 hb2) hp ht2 hf2
  obtain ⟨tv, xv, hv⟩ := hC.iface
  clear hp ht2 hf2 hb2 hC h0
  subst hv
  cases l with
  | nil =>
    have HA : Calls _ _ _ _ (fun ev w' => ev = .returned (.bool false) ∧ w' = AsV _ _) := HA
    show Calls _ _ _ _ (fun ev w' => ev = .returned (.bool false) ∧ w' = AsV ((w.alloc (.cells #[.pointer (some t)] 42)).alloc (.cells #[.pointer (some ⟨4, 42, none⟩), .pointer (some ⟨w.heap.size, 0, none⟩), .int .u64 150] 77)) w.heap.size)
    obtain ⟨X, hX⟩ : ∃ X, X = AsV ((w.alloc (.cells #[.pointer (some t)] 42)).alloc (.cells #[.pointer (some ⟨4, 42, none⟩), .pointer (some ⟨w.heap.size, 0, none⟩), .int .u64 150] 77)) w.heap.size := ⟨_, rfl⟩
    rw [← hX] at HA ⊢
    clear hX
    go_enter Tryd.func21, Tryd.ntmps21
    go_wp2_with (fail)
    refine HA.mono ?_
    rintro ev w' ⟨rfl, rfl⟩
    all_goals (try go_wp2)
    go_ret
    exact ⟨rfl, rfl⟩
  | cons op l' =>
    have HA : Calls _ _ _ _ (fun ev w' => ∃ b, Top w0 n r op l' b ∧ ev = .returned (.bool true) ∧ w' = ((AsV _ _).alloc (.cells #[.pointer (some ⟨b, 0, none⟩)] 40)).setCell t (.pointer (some ⟨b, 0, none⟩))) := HA
    show Calls _ _ _ _ (fun ev w' => ∃ b, Top w0 n r op l' b ∧ ev = .returned (.bool true) ∧ w' = ((AsV ((w.alloc (.cells #[.pointer (some t)] 42)).alloc (.cells #[.pointer (some ⟨4, 42, none⟩), .pointer (some ⟨w.heap.size, 0, none⟩), .int .u64 150] 77)) w.heap.size).alloc (.cells #[.pointer (some ⟨b, 0, none⟩)] 40)).setCell t (.pointer (some ⟨b, 0, none⟩)))
    go_enter Tryd.func21, Tryd.ntmps21
    go_wp2_with (fail)
    refine HA.mono ?_
    rintro ev w' ⟨b, hT, rfl, hw'⟩
    have HT := Aside0.mk hT
    have HW := Aside0.mk hw'
    clear hT hw'
    all_goals (try go_wp2)
    go_ret
    exact ⟨b, HT.out, rfl, HW.out⟩
end Go.Proofs.YtfmmmojlnfndkaaDoor.As
