/- FaultStrange. -/
import Derived.Test.YtfmmmojlnfndkaaDoorF5
import Derived.Test.YtfmmmojlnfndkaaDoorWGuard
namespace Go.Proofs.YtfmmmojlnfndkaaDoor.As
open Go.RowKit Go.Proofs.YtfmmmojlnfndkaaDoorW.PrintWords Go.Proofs.YtfmmmojlnfndkaaDoorW.PrintLast Go.Extern.Stop Go.Stop Go.Extern
set_option linter.unusedVariables false
set_option linter.unusedSimpArgs false
def Sx (w0 : World) (a0 a1 : ByteArray) (c b d : Nat) (w : World) : Prop := Laid w ∧ w.heap[b]? = some (.cells #[.string a0, .string a1, .iface 88 (.pointer (some ⟨c, 0, none⟩))] 46) ∧ w.heap[d]? = some (.cells #[.string a0, .string a1, .nilIface] 46) ∧ Below w0.heap.size w0 w
section
variable {w0 w w' : World} {a0 a1 : ByteArray} {c b d : Nat}
theorem Sx.on (h : Sx w0 a0 a1 c b d w) (hb : Below w.heap.size w w') : Sx w0 a0 a1 c b d w' := ⟨h.1.on hb, heap_below hb h.2.1, heap_below hb h.2.2.1, below_step h.2.2.2 hb⟩
theorem Sx.laid (h : Sx w0 a0 a1 c b d w) : Laid w := h.1
theorem Sx.cB2 (h : Sx w0 a0 a1 c b d w) : w.cell? ⟨b, 2, none⟩ = some (.iface 88 (.pointer (some ⟨c, 0, none⟩))) := by simp only [World.cell?, h.2.1]; rfl
theorem Sx.cD2 (h : Sx w0 a0 a1 c b d w) : w.cell? ⟨d, 2, none⟩ = some .nilIface := by simp only [World.cell?, h.2.2.1]; rfl
theorem Sx.chW (h : Sx w0 a0 a1 c b d w) : Ch w (.iface 40 (.pointer (some ⟨b, 0, none⟩))) 1 none [a0] := .wrap b a0 _ 0 none [] (by simp only [World.cell?, h.2.1]; rfl) h.cB2 (.str c)
theorem Sx.chD (h : Sx w0 a0 a1 c b d w) : Ch w (.iface 40 (.pointer (some ⟨d, 0, none⟩))) 0 none [a0] := .bare d a0 (by simp only [World.cell?, h.2.2.1]; rfl) h.cD2
end
theorem newErr (s : ByteArray) (w : World) : Calls Tryd.prog 28 #[.string s] w fun ev w' => ev = .returned (.iface 88 (.pointer (some ⟨w.heap.size, 0, none⟩))) ∧ w' = w.alloc (.cells #[.string s] 90) := by
  go_enter Tryd.func28, Tryd.ntmps28
  go_wp2
  go_ret
  exact ⟨rfl, rfl⟩
theorem of5 (v : Value) (n : Nat) (l : List ByteArray) (w : World) (hC : Ch w v n none l) (hg : w.cell? ⟨0, 0, none⟩ = some (.iface 93 (.agg #[.pointer (some ⟨4, 32, none⟩)]))) : Calls Tryd.prog 18 #[v] w fun ev w' => ev = .returned (.int .i64 5) ∧ Below w.heap.size w w' := ofCh v n none l w hC hg
theorem opsNil (w : World) (hg : w.cell? ⟨0, 0, none⟩ = some (.iface 93 (.agg #[.pointer (some ⟨4, 32, none⟩)]))) : Calls Tryd.prog 19 #[.nilIface] w fun ev w' => ∃ A c, ev = .returned (.slice A 0 c) ∧ Below w.heap.size w w' := by
  refine (opsCh .nilIface 0 none [] w (.inl ⟨rfl, rfl⟩) (by simp) hg).mono ?_
  rintro ev w' ⟨v, rfl, hr, hb⟩
  obtain ⟨A, c, rfl⟩ := Kd.R_slice hr
  exact ⟨A, c, rfl, hb⟩
theorem errNil (w : World) : Calls Tryd.prog 22 #[.pointer none] w fun ev w' => ev = .returned (.string ⟨#[]⟩) ∧ w' = w := by
  go_enter Tryd.func22, Tryd.ntmps22
  go_wp2
  go_ret
  exact ⟨rfl, rfl⟩
theorem unwrapNil (w : World) : Calls Tryd.prog 24 #[.pointer none] w fun ev w' => ev = .returned .nilIface ∧ w' = w := by
  go_enter Tryd.func24, Tryd.ntmps24
  go_wp2
  go_ret
  exact ⟨rfl, rfl⟩
theorem unwrapBare (d : Nat) (w : World) (h : w.cell? ⟨d, 2, none⟩ = some .nilIface) : Calls Tryd.prog 24 #[.pointer (some ⟨d, 0, none⟩)] w fun ev w' => ev = .returned .nilIface ∧ w' = w := by
  go_enter Tryd.func24, Tryd.ntmps24
  go_wp2
  go_ret
  exact ⟨rfl, rfl⟩
set_option maxHeartbeats 4000000 in
set_option maxRecDepth 100000 in
theorem strange (a0 a1 : ByteArray) (w : World) (hL : Laid w) : Calls Tryd.prog 8 #[.string a0, .string a1] w fun e w' => e = .returned (.bool true) ∧ Below w.heap.size w w' := by
  have hb1 : Below w.heap.size w (w.alloc (.cells #[.string a1] 90)) := Below.alloc (Below.refl _ _) (Nat.le_refl _) _
  have hA := wrapCh a0 a1 (.iface 88 (.pointer (some ⟨w.heap.size, 0, none⟩))) 0 none [] (w.alloc (.cells #[.string a1] 90)) (.str _) (by decide) (hL.on hb1).et
  have HL := Aside0.mk hL
  have HB1 := Aside0.mk hb1
  clear hL hb1
  go_enter Tryd.func8, Tryd.ntmps8
  go_upto_region 5 with (first | ((with_reducible refine gate_callee (f := 28) rfl ?_); refine goesL_ (some 10) rfl rfl Tryd.func28 (by kernel_rfl) rfl #[.string a1] rfl (by (try simp only [List.map_toArray, List.map_cons, List.map_nil]); first | done | rfl) ?_; (with_reducible refine (newErr a1 w).mono ?_); rintro e' w' ⟨rfl, rfl⟩; refine ⟨_, rfl, ?_⟩) | ((with_reducible refine gate_callee (f := 25) rfl ?_); refine goesL_ (some 14) rfl rfl Tryd.func25 (by kernel_rfl) rfl #[.string a0, .string a1, .iface 88 (.pointer (some ⟨w.heap.size, 0, none⟩))] rfl (by (try simp only [List.map_toArray, List.map_cons, List.map_nil]); first | done | rfl) ?_; (with_reducible refine (hA).mono ?_); rintro e' w2 ⟨b, rfl, hbl, hh, hb⟩; refine ⟨_, rfl, ?_⟩; have HB := Aside0.mk hb; have HH := Aside0.mk hh; clear hb hh hbl))
  have HS : Aside0 (Sx w a0 a1 w.heap.size b w2.heap.size (w2.alloc (.cells #[.string a0, .string a1, .nilIface] 46))) := Aside0.mk (by
    have hb2 := below_step HB1.out HB.out
    have hb3 : Below w2.heap.size w2 (w2.alloc (.cells #[.string a0, .string a1, .nilIface] 46)) := Below.alloc (Below.refl _ _) (Nat.le_refl _) _
    exact ⟨(HL.out.on hb2).on hb3, heap_below hb3 HH.out, heap_new _ _, below_step hb2 hb3⟩)
  clear HH HB HB1 HL
  obtain ⟨c, hc⟩ : ∃ c, c = w.heap.size := ⟨_, rfl⟩
  obtain ⟨d, hd⟩ : ∃ d, d = w2.heap.size := ⟨_, rfl⟩
  obtain ⟨w3, hw3⟩ : ∃ w3, w3 = w2.alloc (.cells #[.string a0, .string a1, .nilIface] 46) := ⟨_, rfl⟩
  rw [← hc, ← hd, ← hw3] at HS
  rw [← hc, ← hd, ← hw3]
  clear hc hd hw3
  go_wp2_with (first | ((with_reducible refine gate_callee (f := 18) rfl ?_); refine goesL_ (some 20) rfl rfl Tryd.func18 (by kernel_rfl) rfl #[.iface 88 (.pointer (some ⟨c, 0, none⟩))] rfl (by (try simp only [List.map_toArray, List.map_cons, List.map_nil]); first | done | rfl) ?_; (with_reducible refine (of5 _ 0 [] _ (.str c) HS.out.laid.et).mono ?_); rintro e' w' ⟨rfl, hb⟩; refine ⟨_, rfl, ?_⟩; have n0_ := Aside0.mk (HS.out.on hb); clear HS; have HS := n0_; clear n0_ hb) | ((with_reducible refine gate_callee (f := 18) rfl ?_); (refine gate_guard (by first | rfl | kernel_rfl) ?_); refine goesL_ (some 28) rfl rfl Tryd.func18 (by kernel_rfl) rfl #[.iface 40 (.pointer (some ⟨b, 0, none⟩))] rfl (by (try simp only [List.map_toArray, List.map_cons, List.map_nil]); first | done | rfl) ?_; (with_reducible refine (of5 _ 1 [a0] _ HS.out.chW HS.out.laid.et).mono ?_); rintro e' w' ⟨rfl, hb⟩; refine ⟨_, rfl, ?_⟩; have n0_ := Aside0.mk (HS.out.on hb); clear HS; have HS := n0_; clear n0_ hb) | ((with_reducible refine gate_callee (f := 26) rfl ?_); (refine gate_guard (by first | rfl | kernel_rfl) ?_); refine goesL_ (some 34) rfl rfl Tryd.func26 (by kernel_rfl) rfl #[.iface 40 (.pointer (some ⟨b, 0, none⟩)), .iface 88 (.pointer (some ⟨c, 0, none⟩))] rfl (by (try simp only [List.map_toArray, List.map_cons, List.map_nil]); first | done | rfl) ?_; (with_reducible refine (isStr b c _ HS.out.cB2).mono ?_); rintro e' w' ⟨rfl, rfl⟩; refine ⟨_, rfl, ?_⟩) | ((with_reducible refine gate_callee (f := 18) rfl ?_); (refine gate_guard (by first | rfl | kernel_rfl) ?_); refine goesL_ (some 37) rfl rfl Tryd.func18 (by kernel_rfl) rfl #[.nilIface] rfl (by (try simp only [List.map_toArray, List.map_cons, List.map_nil]); first | done | rfl) ?_; (with_reducible refine (ofNil _).mono ?_); rintro e' w' ⟨rfl, rfl⟩; refine ⟨_, rfl, ?_⟩) | ((with_reducible refine gate_callee (f := 19) rfl ?_); (refine gate_guard (by first | rfl | kernel_rfl) ?_); refine goesL_ (some 41) rfl rfl Tryd.func19 (by kernel_rfl) rfl #[.nilIface] rfl (by (try simp only [List.map_toArray, List.map_cons, List.map_nil]); first | done | rfl) ?_; (with_reducible refine (opsNil _ HS.out.laid.et).mono ?_); rintro e' w' ⟨A, cap, rfl, hb⟩; refine ⟨_, rfl, ?_⟩; have n0_ := Aside0.mk (HS.out.on hb); clear HS; have HS := n0_; clear n0_ hb) | ((with_reducible refine gate_callee (f := 22) rfl ?_); (refine gate_guard (by first | rfl | kernel_rfl) ?_); refine goesL_ (some 47) rfl rfl Tryd.func22 (by kernel_rfl) rfl #[.pointer none] rfl (by (try simp only [List.map_toArray, List.map_cons, List.map_nil]); first | done | rfl) ?_; (with_reducible refine (errNil _).mono ?_); rintro e' w' ⟨rfl, rfl⟩; refine ⟨_, rfl, ?_⟩) | ((with_reducible refine gate_callee (f := 24) rfl ?_); (refine gate_guard (by first | rfl | kernel_rfl) ?_); refine goesL_ (some 52) rfl rfl Tryd.func24 (by kernel_rfl) rfl #[.pointer none] rfl (by (try simp only [List.map_toArray, List.map_cons, List.map_nil]); first | done | rfl) ?_; (with_reducible refine (unwrapNil _).mono ?_); rintro e' w' ⟨rfl, rfl⟩; refine ⟨_, rfl, ?_⟩) | ((with_reducible refine gate_callee (f := 24) rfl ?_); (refine gate_guard (by first | rfl | kernel_rfl) ?_); refine goesL_ (some 57) rfl rfl Tryd.func24 (by kernel_rfl) rfl #[.pointer (some ⟨d, 0, none⟩)] rfl (by (try simp only [List.map_toArray, List.map_cons, List.map_nil]); first | done | rfl) ?_; (with_reducible refine (unwrapBare d _ HS.out.cD2).mono ?_); rintro e' w' ⟨rfl, rfl⟩; refine ⟨_, rfl, ?_⟩) | ((with_reducible refine gate_callee (f := 18) rfl ?_); (refine gate_guard (by first | rfl | kernel_rfl) ?_); refine goesL_ (some 63) rfl rfl Tryd.func18 (by kernel_rfl) rfl #[.iface 40 (.pointer (some ⟨d, 0, none⟩))] rfl (by (try simp only [List.map_toArray, List.map_cons, List.map_nil]); first | done | rfl) ?_; (with_reducible refine (of5 _ 0 [a0] _ HS.out.chD HS.out.laid.et).mono ?_); rintro e' w' ⟨rfl, hb⟩; refine ⟨_, rfl, ?_⟩; have n0_ := Aside0.mk (HS.out.on hb); clear HS; have HS := n0_; clear n0_ hb) | ((with_reducible refine gate_callee (f := 16) rfl ?_); (refine gate_guard (by first | rfl | kernel_rfl) ?_); refine goesL_ (some 67) rfl rfl Tryd.func16 (by kernel_rfl) rfl #[] rfl (by (try simp only [List.map_toArray, List.map_cons, List.map_nil]); first | done | rfl) ?_; (with_reducible refine (Q.alive.calls true _ HS.out.laid rfl).mono ?_); rintro e' w' ⟨rfl, hb⟩; refine ⟨_, rfl, ?_⟩; have n0_ := Aside0.mk (HS.out.on hb); clear HS; have HS := n0_; clear n0_ hb))
  all_goals (try go_wp2)
  all_goals (try go_ret)
  all_goals (exact ⟨rfl, HS.out.2.2.2⟩)
end Go.Proofs.YtfmmmojlnfndkaaDoor.As
namespace Go.Proofs.YtfmmmojlnfndkaaDoor.Q
open Go.RowKit
def pumicelaw04_FaultStrange.f (_a0 _a1 : ByteArray) : Option Bool := some true
theorem pumicelaw04_FaultStrange.calls (a0 a1 : ByteArray) (r : Bool) (w : World) (hL : As.Laid w) (h : pumicelaw04_FaultStrange.f a0 a1 = some r) : Calls Tryd.prog 8 #[.string a0, .string a1] w fun e w' => e = .returned (.bool r) ∧ Below w.heap.size w w' := by
  obtain rfl : true = r := Option.some.inj h
  exact As.strange a0 a1 w hL
end Go.Proofs.YtfmmmojlnfndkaaDoor.Q
