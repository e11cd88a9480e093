/- HandlesPlaysSaid: the law's contract met by its plain law. No condition. -/
import Derived.Test.YtgjajdejjiiocaaRows
import Derived.Test.YtgjajdejjiiocaaR0
import Derived.Test.YtgjajdejjiiocaaG5
import Derived.WalkKit
import Derived.ProofKit
import Derived.OpenShut
import Derived.ShutString
import Derived.ChangeOld
import Derived.Below
import Derived.SizedLaws
import Derived.JoinedCond
import Derived.Deep.CondSized
namespace Go.Proofs.Ytgjajdejjiiocaa.handlesPlays
open Go.ChangeShapes Go.WideShapes Go.ChangeAt Go.RowKit Go.Proofs.YtgjajdejjiiocaaW.PrintWords Go.Proofs.Ytgjajdejjiiocaa.Q
open Go.ChangeMaps (open_string shut_string)
set_option linter.unusedVariables false
set_option linter.unusedSimpArgs false
theorem own : ownKnob Try.prog.godebug = none := by kernel_rfl
theorem laidOut : laidOutB Try.prog = true := by kernel_rfl
def dat37 {H : Type} : S37 → DataW H := fun x : S37 => (.agg [.lit (.int .i64 x.f0), .lit (.int .i64 x.f1), .lit (.int .i64 x.f2), .lit (.int .i64 x.f3), .lit (.int .i64 x.f4), .lit (.int .i64 x.f5), .lit (.int .i64 x.f6)] : DataW H)
def ok37 (x : S37) : Prop := (Lit.int .i64 x.f0).wf = true ∧ (Lit.int .i64 x.f1).wf = true ∧ (Lit.int .i64 x.f2).wf = true ∧ (Lit.int .i64 x.f3).wf = true ∧ (Lit.int .i64 x.f4).wf = true ∧ (Lit.int .i64 x.f5).wf = true ∧ (Lit.int .i64 x.f6).wf = true
theorem el37 {H : Type} {enc : TypeId × Value → H} {W : World} : ∀ fuel cs (x : DataW H × List MemPlace), DataW.trod enc Try.prog W 0 (fun _ => true) true fuel 37 cs = some x → ∃ a : S37, Kd.K k37 W a cs ∧ x.1 = dat37 a ∧ ok37 a := by
  intro fuel cs x h
  obtain ⟨ys, n, hd, hyl, hcl, hfs⟩ := R0.struct_fields Try.underlying37 (by kernel_rfl) (by kernel_rfl) h
  obtain ⟨c0, y0, hc0, hy0, ht0⟩ := hfs 0 _ rfl
  obtain ⟨a0, rfl, hd0, w0⟩ := R0.int_cell Try.underlying3 ht0
  obtain ⟨c1, y1, hc1, hy1, ht1⟩ := hfs 1 _ rfl
  obtain ⟨a1, rfl, hd1, w1⟩ := R0.int_cell Try.underlying3 ht1
  obtain ⟨c2, y2, hc2, hy2, ht2⟩ := hfs 2 _ rfl
  obtain ⟨a2, rfl, hd2, w2⟩ := R0.int_cell Try.underlying3 ht2
  obtain ⟨c3, y3, hc3, hy3, ht3⟩ := hfs 3 _ rfl
  obtain ⟨a3, rfl, hd3, w3⟩ := R0.int_cell Try.underlying3 ht3
  obtain ⟨c4, y4, hc4, hy4, ht4⟩ := hfs 4 _ rfl
  obtain ⟨a4, rfl, hd4, w4⟩ := R0.int_cell Try.underlying3 ht4
  obtain ⟨c5, y5, hc5, hy5, ht5⟩ := hfs 5 _ rfl
  obtain ⟨a5, rfl, hd5, w5⟩ := R0.int_cell Try.underlying3 ht5
  obtain ⟨c6, y6, hc6, hy6, ht6⟩ := hfs 6 _ rfl
  obtain ⟨a6, rfl, hd6, w6⟩ := R0.int_cell Try.underlying3 ht6
  obtain rfl := R0.list7 hcl hc0 hc1 hc2 hc3 hc4 hc5 hc6
  obtain rfl := R0.list7 hyl hy0 hy1 hy2 hy3 hy4 hy5 hy6
  refine ⟨⟨a0, a1, a2, a3, a4, a5, a6⟩, k37_mk _ _, ?_, ⟨w0, w1, w2, w3, w4, w5, w6⟩⟩
  rw [hd]
  simp only [List.map_cons, List.map_nil, hd0, hd1, hd2, hd3, hd4, hd5, hd6]
  rfl
set_option maxRecDepth 100000 in
set_option maxHeartbeats 1600000 in
theorem contract (H : Type) (enc : TypeId × Value → H) (W : World) (base : Nat) (args : Array Value) (ds gs : List (DataW H)) (before : List MemPlace)
    (hval0 : ∀ (j : Nat) t v, Try.f4.params[j]? = some t → args[j]? = some v → Value.okWide Try.prog W .any base t v)
    (hW : DataW.Whole enc Try.prog Try.f4.params.toList Rows.handlesPlaysSpec.vars false W args.toList ds gs before) (hsz0 : (DataW.weightsEach Try.prog (Try.f4.params.toList ++ Rows.handlesPlaysSpec.plain.varTypes Try.prog) (ds ++ gs)).all (· ≤ reachBytes) = true) :
    Calls Try.prog 4 args W fun e W' => ∃ v, e = .returned v ∧ Rows.handlesPlaysSpec.post enc Try.prog Try.f4 false true false false W args v W' := by
  have hsz : (DataW.weightsEach Try.prog (Try.f4.params.toList ++ Rows.handlesPlaysSpec.plain.varTypes Try.prog) (ds ++ gs)).all (· ≤ reachBytes) = true := hsz0
  have hval : ∀ (j : Nat) t v, Try.f4.params[j]? = some t → args[j]? = some v → Value.okWide Try.prog W .any base t v := hval0
  have hW' := hW
  obtain ⟨p, q, hA0, hV, rfl, hfz, hnd⟩ := hW
  have hA : DataW.TrodAll enc Try.prog W 0 (fun _ => true) true Try.f4.params.toList args.toList ds p := hA0
  rw [Try.params4] at hA hval hsz
  obtain ⟨v0, vs0, d0, ds0, p0, q0, hargs, rfl, rfl, h0, r0⟩ := trodAll_cons hA
  obtain ⟨rfl, rfl, rfl⟩ := trodAll_nil r0
  obtain rfl : args = #[v0] := by cases args; simp_all
  obtain ⟨rfl, rfl⟩ := trodVars_none hV
  have k0 := h0
  have lt0 : ∀ x ∈ p0, x.block < W.heap.size := by obtain ⟨m, hm⟩ := k0; exact DataW.trod_lt m _ _ _ hm
  obtain ⟨A0, l0, c0, sp0, rfl, hc0, hr0, hd0, o0⟩ := R0.slice_open k37 dat37 ok37 Try.underlying33 (by kernel_rfl) el37 (hval 0 33 v0 rfl rfl) h0
  have m0 : l0.length * Try.prog.bytesOf 37 ≤ 140737488351232 := by
    rcases hd0 with ⟨hD, hl⟩ | hD
    · rw [hl]; simp
    · have q := hsz
      rw [hD] at q
      have q1 := R0.sized_len q (j := 0) (t := 33) rfl rfl Try.underlying33
      simpa using q1
  clear hA0 hval0 hsz0 hsz
  have hpure := HandlesPlays_pure l0 (fun x hx => by have h_ := o0 x hx; unfold ok37 at h_; exact ⟨h_.2.2.2.2.1, h_.2.2.2.2.2.2⟩)
  refine (Q.pumicelaw23_HandlesPlays.calls _ _ l0 true W hr0 hc0 hpure).mono fun e W' ⟨he, bel0⟩ => ?_
  have bel : Below W.heap.size W W' := bel0
  subst he
  exact ⟨_, rfl, _, _, _, [], _, [], hW', trodAll_mk1 (shut_bool Try.underlying4 _), (trodAll_cons_mk (Below.trod laidOut (by kernel_rfl) (of_decide_eq_true (by kernel_rfl)) k0 bel lt0) trodAll_mk0), rfl, bel.frame _, fun h => by cases h⟩
set_option maxRecDepth 100000 in
theorem lifted (os : Os) (started : os.Started) (H : Type) (enc : TypeId × Value → H) :
    ReturnsInHanded {} Try.checked os 4 .any (Rows.handlesPlaysSpec.pre6 enc Try.prog Try.f4 Rows.handlesPlaysRow.domain false) (Rows.handlesPlaysSpec.post enc Try.prog Try.f4 false true false false) := by
  refine returnsInHanded_of_change_sized (C := Try.checked) own started (by kernel_rfl) Try.func4
    (ChangeSpec.witness6 (enc := enc) (C := Try.checked) false ⟨#[], #[.slice none 0 0], []⟩ 8 (by kernel_rfl) (by kernel_rfl) (by kernel_rfl) (by kernel_rfl)) ?_
  intro W base args ds gs before hval hW _ hsz _
  exact contract H enc W base args ds gs before hval hW hsz
theorem over : Rows.handlesPlaysRow.holds Try.pinned (OpenSpec.ofChange Rows.handlesPlaysSpec) :=
  OpenClaim.holds_of_wide 4 Try.f4 rfl rfl rfl rfl rfl rfl rfl ⟨rfl, rfl, rfl, rfl, rfl⟩ rfl rfl rfl rfl rfl (by kernel_rfl) Try.func4 (by kernel_rfl)
    (of_decide_eq_true (by kernel_rfl)) (by unfold Func.isWrapper; first | (rw [if_pos (by decide +kernel)]; kernel_rfl) | (rw [if_neg (by decide +kernel)]; exact ⟨rfl, rfl⟩))
    (fun os started H enc _ => lifted os started H enc)
end Go.Proofs.Ytgjajdejjiiocaa.handlesPlays
namespace Go.Proofs.Ytgjajdejjiiocaa
/-- The row. -/
theorem handlesPlays_holds : Rows.HandlesPlaysSaid := handlesPlays.over
#print axioms handlesPlays_holds
end Go.Proofs.Ytgjajdejjiiocaa
