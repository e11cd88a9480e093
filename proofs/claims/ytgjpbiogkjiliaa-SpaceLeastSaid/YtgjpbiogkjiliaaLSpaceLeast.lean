/- SpaceLeastSaid: the law's contract met by its plain law. No condition. -/
import Derived.Test.YtgjpbiogkjiliaaRows
import Derived.Test.YtgjpbiogkjiliaaR0
import Derived.Test.YtgjpbiogkjiliaaA2
import Derived.WalkKit
import Derived.ProofKit
import Derived.OpenShut
import Derived.ShutString
import Derived.ChangeOld
import Derived.Below
import Derived.SizedLaws
import Derived.JoinedCond
import Derived.Deep.CondSized
namespace Go.Proofs.Ytgjpbiogkjiliaa.spaceLeast
open Go.ChangeShapes Go.WideShapes Go.ChangeAt Go.RowKit Go.Proofs.YtgjpbiogkjiliaaW.PrintWords Go.Proofs.Ytgjpbiogkjiliaa.Q
open Go.ChangeMaps (open_string shut_string)
set_option linter.unusedVariables false
set_option linter.unusedSimpArgs false
theorem own : ownKnob Try.prog.godebug = none := by kernel_rfl
theorem laidOut : laidOutB Try.prog = true := by kernel_rfl
set_option maxRecDepth 100000 in
set_option maxHeartbeats 1600000 in
theorem contract (H : Type) (enc : TypeId × Value → H) (W : World) (base : Nat) (args : Array Value) (ds gs : List (DataW H)) (before : List MemPlace)
    (hval0 : ∀ (j : Nat) t v, Try.f4.params[j]? = some t → args[j]? = some v → Value.okWide Try.prog W .any base t v)
    (hW : DataW.Whole enc Try.prog Try.f4.params.toList Rows.spaceLeastSpec.vars false W args.toList ds gs before) (hsz0 : (DataW.weightsEach Try.prog (Try.f4.params.toList ++ Rows.spaceLeastSpec.plain.varTypes Try.prog) (ds ++ gs)).all (· ≤ reachBytes) = true) :
    Calls Try.prog 4 args W fun e W' => ∃ v, e = .returned v ∧ Rows.spaceLeastSpec.post enc Try.prog Try.f4 false true false false W args v W' := by
  have hsz : (DataW.weightsEach Try.prog (Try.f4.params.toList ++ Rows.spaceLeastSpec.plain.varTypes Try.prog) (ds ++ gs)).all (· ≤ reachBytes) = true := hsz0
  have hval : ∀ (j : Nat) t v, Try.f4.params[j]? = some t → args[j]? = some v → Value.okWide Try.prog W .any base t v := hval0
  have hW' := hW
  obtain ⟨p, q, hA0, hV, rfl, hfz, hnd⟩ := hW
  have hA : DataW.TrodAll enc Try.prog W 0 (fun _ => true) true Try.f4.params.toList args.toList ds p := hA0
  rw [Try.params4] at hA hval hsz
  obtain ⟨v0, vs0, d0, ds0, p0, q0, hargs, rfl, rfl, h0, r0⟩ := trodAll_cons hA
  obtain ⟨rfl, rfl, rfl⟩ := trodAll_nil r0
  obtain rfl : args = #[v0] := by cases args; simp_all
  obtain ⟨rfl, rfl⟩ := trodVars_none hV
  have k0 := h0
  have lt0 : ∀ x ∈ p0, x.block < W.heap.size := by obtain ⟨m, hm⟩ := k0; exact DataW.trod_lt m _ _ _ hm
  obtain ⟨cs0, rfl, hsz0⟩ := okWide_struct Try.underlying23 (hval 0 23 v0 rfl rfl)
  obtain ⟨fu0, hf0⟩ := h0
  obtain ⟨ys0, n0, hd0, hyl0, hcl0, hfs0⟩ := R0.struct_fields Try.underlying23 (by kernel_rfl) (by kernel_rfl) hf0
  obtain ⟨c0_0, y0_0, hc0_0, hy0_0, ht0_0⟩ := hfs0 0 _ rfl
  obtain ⟨a0_0, rfl, hd0_0, w0_0⟩ := R0.int_cell Try.underlying3 ht0_0
  obtain ⟨c0_1, y0_1, hc0_1, hy0_1, ht0_1⟩ := hfs0 1 _ rfl
  obtain ⟨a0_1, rfl, hd0_1, w0_1⟩ := R0.int_cell Try.underlying3 ht0_1
  obtain ⟨c0_2, y0_2, hc0_2, hy0_2, ht0_2⟩ := hfs0 2 _ rfl
  obtain ⟨a0_2, rfl, hd0_2, w0_2⟩ := R0.int_cell Try.underlying3 ht0_2
  obtain ⟨c0_3, y0_3, hc0_3, hy0_3, ht0_3⟩ := hfs0 3 _ rfl
  obtain ⟨a0_3, rfl, hd0_3, w0_3⟩ := R0.int_cell Try.underlying3 ht0_3
  have hcs0 := R0.list4 hcl0 hc0_0 hc0_1 hc0_2 hc0_3
  obtain rfl := R0.list4 hyl0 hy0_0 hy0_1 hy0_2 hy0_3
  simp only [List.map_cons, List.map_nil, hd0_0, hd0_1, hd0_2, hd0_3] at hd0
  obtain rfl : cs0 = #[.int .i64 a0_0, .int .i64 a0_1, .int .i64 a0_2, .int .i64 a0_3] := R0.arr_of hcs0
  clear hA0 hval0 hsz0 hsz
  have hpure := SpaceLeast_pure a0_0 a0_1 a0_2 a0_3
  refine (Q.pumicelaw16_SpaceLeast.calls a0_0 a0_1 a0_2 a0_3 true W  hpure).mono fun e W' ⟨he, bel0⟩ => ?_
  have bel : Below W.heap.size W W' := bel0
  subst he
  exact ⟨_, rfl, _, _, _, [], _, [], hW', trodAll_mk1 (shut_bool Try.underlying4 _), (trodAll_cons_mk (Below.trod laidOut (by kernel_rfl) (of_decide_eq_true (by kernel_rfl)) k0 bel lt0) trodAll_mk0), rfl, bel.frame _, fun h => by cases h⟩
set_option maxRecDepth 100000 in
theorem lifted (os : Os) (started : os.Started) (H : Type) (enc : TypeId × Value → H) :
    ReturnsInHanded {} Try.checked os 4 .any (Rows.spaceLeastSpec.pre6 enc Try.prog Try.f4 Rows.spaceLeastRow.domain false) (Rows.spaceLeastSpec.post enc Try.prog Try.f4 false true false false) := by
  refine returnsInHanded_of_change_sized (C := Try.checked) own started (by kernel_rfl) Try.func4
    (ChangeSpec.witness6 (enc := enc) (C := Try.checked) false ⟨#[], #[.agg #[.int .i64 0, .int .i64 0, .int .i64 0, .int .i64 0]], []⟩ 8 (by kernel_rfl) (by kernel_rfl) (by kernel_rfl) (by kernel_rfl)) ?_
  intro W base args ds gs before hval hW _ hsz _
  exact contract H enc W base args ds gs before hval hW hsz
theorem over : Rows.spaceLeastRow.holds Try.pinned (OpenSpec.ofChange Rows.spaceLeastSpec) :=
  OpenClaim.holds_of_wide 4 Try.f4 rfl rfl rfl rfl rfl rfl rfl ⟨rfl, rfl, rfl, rfl, rfl⟩ rfl rfl rfl rfl rfl (by kernel_rfl) Try.func4 (by kernel_rfl)
    (of_decide_eq_true (by kernel_rfl)) (by unfold Func.isWrapper; first | (rw [if_pos (by decide +kernel)]; kernel_rfl) | (rw [if_neg (by decide +kernel)]; exact ⟨rfl, rfl⟩))
    (fun os started H enc _ => lifted os started H enc)
end Go.Proofs.Ytgjpbiogkjiliaa.spaceLeast
namespace Go.Proofs.Ytgjpbiogkjiliaa
/-- The row. -/
theorem spaceLeast_holds : Rows.SpaceLeastSaid := spaceLeast.over
#print axioms spaceLeast_holds
end Go.Proofs.Ytgjpbiogkjiliaa
