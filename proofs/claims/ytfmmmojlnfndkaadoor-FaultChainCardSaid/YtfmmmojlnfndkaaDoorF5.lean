/- fault.Wrap and fault.Ops over a chain of errors. -/
import Derived.Test.YtfmmmojlnfndkaaDoorF4
import Derived.Test.YtfmmmojlnfndkaaDoorWGuard
namespace Go.Proofs.YtfmmmojlnfndkaaDoor.As
open Go.RowKit Go.Proofs.YtfmmmojlnfndkaaDoorW.PrintWords Go.Proofs.YtfmmmojlnfndkaaDoorW.PrintLast Go.Extern.Stop Go.Stop Go.Extern
set_option linter.unusedVariables false
set_option linter.unusedSimpArgs false
set_option maxRecDepth 20000 in
theorem wrapCh (op what : ByteArray) (v : Value) (n : Nat) (r : Option Int) (l : List ByteArray) (w : World) (hC : Ch w v n r l) (he : ofR r ≠ 0) (hg : w.cell? ⟨0, 0, none⟩ = some (.iface 93 (.agg #[.pointer (some ⟨4, 32, none⟩)]))) :
    Calls Tryd.prog 25 #[.string op, .string what, v] w fun ev w' => ∃ b, ev = .returned (.iface 40 (.pointer (some ⟨b, 0, none⟩))) ∧ w.heap.size ≤ b ∧ w'.heap[b]? = some (.cells #[.string op, .string what, v] 46) ∧ Below w.heap.size w w' := by
  have hA := ofCh v n r l w hC hg
  have h0 : (ofR r == 0) = false := by simpa using he
  obtain ⟨x, hx⟩ : ∃ x, x = ofR r := ⟨_, rfl⟩
  rw [← hx] at hA h0
  obtain ⟨tv, xv, hv⟩ := hC.iface
  subst hv
  clear hg he hC hx
  go_enter Tryd.func25, Tryd.ntmps25
  go_wp2_with (first | ((with_reducible refine gate_callee (f := 18) rfl ?_); (refine gate_guard (by first | rfl | kernel_rfl) ?_); refine goesL_ (some 11) rfl rfl Tryd.func18 (by kernel_rfl) rfl #[.iface tv xv] rfl (by (try simp only [List.map_toArray, List.map_cons, List.map_nil]); first | done | rfl) ?_; (with_reducible refine (hA).mono ?_); rintro e' w' ⟨rfl, hb⟩; refine ⟨_, rfl, ?_⟩; have HB := Aside0.mk hb; clear hb))
  all_goals (try go_wp2)
  all_goals (try go_ret)
  all_goals (refine ⟨_, rfl, HB.out.size, heap_new _ _, Below.alloc HB.out HB.out.size _⟩)
set_option maxRecDepth 20000 in
theorem wrapCh0 (op what : ByteArray) (v : Value) (n : Nat) (r : Option Int) (l : List ByteArray) (w : World) (hC : Ch w v n r l) (he : ofR r = 0) (hg : w.cell? ⟨0, 0, none⟩ = some (.iface 93 (.agg #[.pointer (some ⟨4, 32, none⟩)]))) :
    Calls Tryd.prog 25 #[.string op, .string what, v] w fun ev w' => ev = .returned .nilIface ∧ Below w.heap.size w w' := by
  have hA := ofCh v n r l w hC hg
  rw [he] at hA
  obtain ⟨tv, xv, hv⟩ := hC.iface
  subst hv
  clear hg he hC
  go_enter Tryd.func25, Tryd.ntmps25
  go_wp2_with (first | ((with_reducible refine gate_callee (f := 18) rfl ?_); (refine gate_guard (by first | rfl | kernel_rfl) ?_); refine goesL_ (some 11) rfl rfl Tryd.func18 (by kernel_rfl) rfl #[.iface tv xv] rfl (by (try simp only [List.map_toArray, List.map_cons, List.map_nil]); first | done | rfl) ?_; (with_reducible refine (hA).mono ?_); rintro e' w' ⟨rfl, hb⟩; refine ⟨_, rfl, ?_⟩; have HB := Aside0.mk hb; clear hb))
  all_goals (try go_wp2)
  all_goals (try go_ret)
  all_goals (exact ⟨rfl, HB.out⟩)
/-- One link more. -/
theorem wrap_chain {op what : ByteArray} {v : Value} {n : Nat} {r : Option Int} {l : List ByteArray} {w w' : World} {b : Nat} (hC : Ch w v n r l) (hb : Below w.heap.size w w') (hh : w'.heap[b]? = some (.cells #[.string op, .string what, v] 46)) : Ch w' (.iface 40 (.pointer (some ⟨b, 0, none⟩))) (n + 1) r (op :: l) := by
  refine .wrap b op v n r l ?_ ?_ (hC.on hb)
  · simp only [World.cell?, hh]; rfl
  · simp only [World.cell?, hh]; rfl
/-! ### Ops -/
theorem info9 : (Tryd.prog.info? 9).map (fun i => (i.zero, i.size, i.bytes)) = some (some (.string ByteArray.empty), 1, 16) := by kernel_rfl
/-- What is left to tell: nil, or a chain. -/
def Rest (w : World) (n : Nat) (r : Option Int) (u : Value) (l : List ByteArray) : Prop := (u = .nilIface ∧ l = []) ∨ ∃ m, m < n ∧ Ch w u m r l
noncomputable def mOps (w : World) (u : Value) : Nat := match u with
  | .nilIface => 0
  | _ => dep w u + 1
theorem topCells {w : World} {n : Nat} {r : Option Int} {op : ByteArray} {l : List ByteArray} {b : Nat} (h : Top w n r op l b) : w.cell? ⟨b, 0, none⟩ = some (.string op) ∧ ∃ v2, w.cell? ⟨b, 2, none⟩ = some v2 ∧ Rest w n r v2 l := by
  obtain ⟨h0, ⟨h1, h2, h3⟩ | ⟨v, m, h1, h2, h3⟩⟩ := h
  · exact ⟨h0, _, h1, .inl ⟨rfl, h2⟩⟩
  · exact ⟨h0, v, h2, .inr ⟨m, h1, h3⟩⟩
theorem opsNo {w X : World} (h : X = AsV (((w.alloc (.cells #[.pointer none] 40)).alloc (.cells #[.pointer (some ⟨w.heap.size, 0, none⟩)] 42)).alloc (.cells #[.pointer (some ⟨4, 42, none⟩), .pointer (some ⟨(w.alloc (.cells #[.pointer none] 40)).heap.size, 0, none⟩), .int .u64 150] 77)) (w.alloc (.cells #[.pointer none] 40)).heap.size) : Below w.heap.size w X := by
  subst h
  unfold AsV
  repeat (refine Below.alloc ?_ (by simp <;> omega) _)
  exact Below.refl _ _
theorem opsYes {w X : World} {b : Nat} (h : X = ((AsV (((w.alloc (.cells #[.pointer none] 40)).alloc (.cells #[.pointer (some ⟨w.heap.size, 0, none⟩)] 42)).alloc (.cells #[.pointer (some ⟨4, 42, none⟩), .pointer (some ⟨(w.alloc (.cells #[.pointer none] 40)).heap.size, 0, none⟩), .int .u64 150] 77)) (w.alloc (.cells #[.pointer none] 40)).heap.size).alloc (.cells #[.pointer (some ⟨b, 0, none⟩)] 40)).setCell ⟨w.heap.size, 0, none⟩ (.pointer (some ⟨b, 0, none⟩))) : X.cell? ⟨w.heap.size, 0, none⟩ = some (.pointer (some ⟨b, 0, none⟩)) ∧ Below w.heap.size w X := by
  subst h
  unfold AsV
  refine ⟨?_, ?_⟩
  · have hx := one_setCell (u := .pointer (some ⟨b, 0, none⟩)) (heap_old (.cells #[.pointer (some ⟨b, 0, none⟩)] 40) (heap_old (.cells #[.pointer (some ⟨4, 42, none⟩), .pointer (some ⟨(w.alloc (.cells #[.pointer none] 40)).heap.size, 0, none⟩), .int .u64 150] 77) (heap_old (.cells #[.pointer (some ⟨4, 42, none⟩), .pointer (some ⟨(w.alloc (.cells #[.pointer none] 40)).heap.size, 0, none⟩), .int .u64 150] 77) (heap_old (.cells #[.pointer (some ⟨w.heap.size, 0, none⟩)] 42) (heap_new w (.cells #[.pointer none] 40))))))
    simp only [World.cell?, hx]
    rfl
  · refine Below.setCell (p := ⟨w.heap.size, 0, none⟩) ?_ (Nat.le_refl w.heap.size) _
    repeat (refine Below.alloc ?_ (by simp <;> omega) _)
    exact Below.refl _ _
/-- How fault.Ops ends. -/
def OpsPost (w : World) (l : List ByteArray) (ev : Ending) (w' : World) : Prop := ∃ v, ev = .returned v ∧ Kd.R Kd.string 9 w' w.heap.size (fun _ => True) v l ∧ Below w.heap.size w w'
set_option maxHeartbeats 4000000 in
set_option maxRecDepth 20000 in
theorem opsCh (v : Value) (n : Nat) (r : Option Int) (l : List ByteArray) (w : World) (hC : Rest w n r v l) (hl : l.length * 16 ≤ 140737488355328) (hg : w.cell? ⟨0, 0, none⟩ = some (.iface 93 (.agg #[.pointer (some ⟨4, 32, none⟩)]))) :
    Calls Tryd.prog 19 #[v] w (OpsPost w l) := by
  have HC := Aside0.mk hC
  have HG := Aside0.mk hg
  have HL := Aside0.mk hl
  clear hC hg hl
  go_enter Tryd.func19, Tryd.ntmps19
  go_wp2
  go_loopw [0, 3] (fun u out wr => ∃ (n : Nat) (done rest : List ByteArray) (u' out' : Value), u = u' ∧ out = out' ∧ Aside0 (l = done ++ rest) ∧ Aside0 (Kd.R Kd.string 9 wr w.heap.size (fun _ => True) out' done) ∧ Aside0 (Below w.heap.size w wr) ∧ Aside0 (Rest w n r u' rest)) (fun u _ _ => mOps w u)
  case atStart => exact ⟨n, [], l, _, _, rfl, rfl, ⟨rfl⟩, ⟨Kd.R_nil _ _ _ _ _⟩, ⟨Below.refl _ _⟩, HC⟩
  case round =>
    obtain ⟨n1, done, rest, u, out, h1, h2, HD, HR, HW, HC⟩ := hrel
    obtain rfl := h1.symm
    obtain rfl := h2.symm
    clear h1 h2
    rcases HC.out with ⟨rfl, hr⟩ | ⟨m, hm, hC⟩
    · have HE : Aside0 (l = done) := Aside0.mk (by rw [HD.out, hr, List.append_nil])
      clear hr
      go_wp2
      go_ret
      exact ⟨_, rfl, by rw [HE.out]; exact HR.out, HW.out⟩
    · have HM := Aside0.mk (dep_of hC)
      have hA := asCh42 w u m r rest ⟨wr.heap.size, 0, none⟩ (.pointer none) (wr.alloc (.cells #[.pointer none] 40)) hC (Below.alloc HW.out HW.out.size _)
        (by rw [World.cell?_alloc_lt _ _ ⟨0, 0, none⟩ (Nat.lt_of_lt_of_le (World.block_lt_of_cell? w ⟨0, 0, none⟩ HG.out) HW.out.size)]; exact cell_below HW.out HG.out)
        (by simp)
        (by have h := heap_new wr (.cells #[.pointer none] 40); simp only [World.frozen?, h]; rfl)
      obtain ⟨tv, xv, hv⟩ := hC.iface
      subst hv
      clear hC hm
      cases rest with
      | nil =>
        have hA : Calls _ _ _ _ (fun ev w' => ev = .returned (.bool false) ∧ w' = AsV _ _) := hA
        have HA := Aside0.mk hA
        have HE : Aside0 (l = done) := Aside0.mk (by rw [HD.out, List.append_nil])
        clear hA
        go_wp2_with (first | ((with_reducible refine gate_callee (f := 21) rfl ?_); refine goesL_ (some 9) rfl rfl Tryd.func21 (by kernel_rfl) rfl #[.iface tv xv, .iface 42 (.pointer (some ⟨wr.heap.size, 0, none⟩))] rfl (by (try simp only [List.map_toArray, List.map_cons, List.map_nil]); first | done | rfl) ?_; (with_reducible refine (HA.out).mono ?_); rintro e' w' ⟨rfl, hw'⟩; refine ⟨_, rfl, ?_⟩; have hb := opsNo hw'; clear hw'; have HR1 := Aside0.mk (Kd.R_below HR.out hb); have HW1 := Aside0.mk (below_step HW.out hb); clear hb))
        all_goals (try go_wp2)
        go_ret
        exact ⟨_, rfl, by rw [HE.out]; exact HR1.out, HW1.out⟩
      | cons op rest =>
        have hA : Calls _ _ _ _ (fun ev w' => ∃ b, Top w m r op rest b ∧ ev = .returned (.bool true) ∧ w' = ((AsV _ _).alloc (.cells #[.pointer (some ⟨b, 0, none⟩)] 40)).setCell _ (.pointer (some ⟨b, 0, none⟩))) := hA
        have HA := Aside0.mk hA
        clear hA
        have HY : Aside0 (some wr.heap.size ≠ out.ownBlock) := Aside0.mk fun e => absurd ((Kd.R_bound HR.out).1 _ e.symm).2.2.1 (Nat.lt_irrefl _)
        go_wp2_with (first | ((with_reducible refine gate_callee (f := 21) rfl ?_); refine goesL_ (some 9) rfl rfl Tryd.func21 (by kernel_rfl) rfl #[.iface tv xv, .iface 42 (.pointer (some ⟨wr.heap.size, 0, none⟩))] rfl (by (try simp only [List.map_toArray, List.map_cons, List.map_nil]); first | done | rfl) ?_; (with_reducible refine (HA.out).mono ?_); rintro e' w' ⟨b, hT, rfl, hw'⟩; refine ⟨_, rfl, ?_⟩; obtain ⟨hc, hb⟩ := opsYes hw'; clear hw'; have HR1 := Aside0.mk (Kd.R_below HR.out hb); have HW1 := Aside0.mk (below_step HW.out hb); clear hb; obtain ⟨k0, v2, k2, hs⟩ := topCells hT; have c0 := cell_below HW1.out k0; have c2 := cell_below HW1.out k2; have HK2 := Aside0.mk k2; clear k0 k2 hT; have HS := Aside0.mk hs; clear hs) | ((with_reducible refine gate_builtin (b := .append) (xs := #[.tmp 15, .tmp 20]) rfl ?_); at_builtin; refine Kd.R_append Kd.string (w0 := w) w.heap.size rfl (.tmp 15) (.tmp 20) 30 9 (.string ByteArray.empty) 16 rfl Tryd.underlying30 info9 rfl (by decide) (by omega) _ done op [.string op] (fun _ => True) (fun _ => False) rfl rfl ?aP (fun _ hk => hk.elim) (fun _ _ => trivial) HR1.out HW1.out HW1.out.size ?aL ?_; (case aP => exact rfl); (case aL => have := HL.out; have h2 := HD.out; rw [h2] at this; simp only [List.length_append, List.length_cons] at this; omega); intro v1 w1 ho hb hg hat; have HR2 := Aside0.mk ho; have HW2 := Aside0.mk hb; have hc1 := cell_grown hg hc HY.out; have c2b := cell_below HW2.out HK2.out; clear ho hb hg hat))
        all_goals (try go_wp2)
        go_roundw
        case rel => exact ⟨m, done ++ [op], rest, v2, v1, rfl, rfl, ⟨by rw [HD.out]; simp⟩, HR2, HW2, HS⟩
        case measure =>
          show mOps w v2 < mOps w (.iface tv xv)
          have h1 : mOps w (.iface tv xv) = m + 1 := by show dep w _ + 1 = _; rw [HM.out]
          rw [h1]
          rcases HS.out with ⟨rfl, _⟩ | ⟨m', hm', hC'⟩
          · exact Nat.succ_pos _
          · obtain ⟨t', x', rfl⟩ := hC'.iface
            show dep w _ + 1 < _
            rw [dep_of hC']
            omega
end Go.Proofs.YtfmmmojlnfndkaaDoor.As
