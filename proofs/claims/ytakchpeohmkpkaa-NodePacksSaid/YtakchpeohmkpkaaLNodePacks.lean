/- NodePacksSaid: the law's contract met by its plain law. No condition. -/
import Derived.Test.YtakchpeohmkpkaaRows
import Derived.Test.YtakchpeohmkpkaaR0
import Derived.Test.YtakchpeohmkpkaaA3
import Derived.WalkKit
import Derived.ProofKit
import Derived.OpenShut
import Derived.ShutString
import Derived.ChangeOld
import Derived.Below
import Derived.SizedLaws
import Derived.JoinedCond
import Derived.Deep.CondSized
namespace Go.Proofs.Ytakchpeohmkpkaa.nodePacks
open Go.ChangeShapes Go.WideShapes Go.ChangeAt Go.RowKit Go.Proofs.YtakchpeohmkpkaaW.PrintWords Go.Proofs.Ytakchpeohmkpkaa.Q
open Go.ChangeMaps (open_string shut_string)
set_option linter.unusedVariables false
set_option linter.unusedSimpArgs false
theorem own : ownKnob Try.prog.godebug = none := by kernel_rfl
theorem laidOut : laidOutB Try.prog = true := by kernel_rfl
set_option maxRecDepth 100000 in
set_option maxHeartbeats 1600000 in
theorem contract (H : Type) (enc : TypeId × Value → H) (W : World) (base : Nat) (args : Array Value) (ds gs : List (DataW H)) (before : List MemPlace)
    (hval0 : ∀ (j : Nat) t v, Try.f4.params[j]? = some t → args[j]? = some v → Value.okWide Try.prog W .any base t v)
    (hW : DataW.Whole enc Try.prog Try.f4.params.toList Rows.nodePacksSpec.vars false W args.toList ds gs before) (hsz0 : (DataW.weightsEach Try.prog (Try.f4.params.toList ++ Rows.nodePacksSpec.plain.varTypes Try.prog) (ds ++ gs)).all (· ≤ reachBytes) = true) :
    Calls Try.prog 4 args W fun e W' => ∃ v, e = .returned v ∧ Rows.nodePacksSpec.post enc Try.prog Try.f4 false true false false W args v W' := by
  have hsz : (DataW.weightsEach Try.prog (Try.f4.params.toList ++ Rows.nodePacksSpec.plain.varTypes Try.prog) (ds ++ gs)).all (· ≤ reachBytes) = true := hsz0
  have hval : ∀ (j : Nat) t v, Try.f4.params[j]? = some t → args[j]? = some v → Value.okWide Try.prog W .any base t v := hval0
  have hW' := hW
  obtain ⟨p, q, hA0, hV, rfl, hfz, hnd⟩ := hW
  have hA : DataW.TrodAll enc Try.prog W 0 (fun _ => true) true Try.f4.params.toList args.toList ds p := hA0
  rw [Try.params4] at hA hval hsz
  obtain ⟨v0, vs0, d0, ds0, p0, q0, hargs, rfl, rfl, h0, r0⟩ := trodAll_cons hA
  obtain ⟨v1, vs1, d1, ds1, p1, q1, rfl, rfl, rfl, h1, r1⟩ := trodAll_cons r0
  obtain ⟨v2, vs2, d2, ds2, p2, q2, rfl, rfl, rfl, h2, r2⟩ := trodAll_cons r1
  obtain ⟨rfl, rfl, rfl⟩ := trodAll_nil r2
  obtain rfl : args = #[v0, v1, v2] := by cases args; simp_all
  obtain ⟨rfl, rfl⟩ := trodVars_none hV
  have k0 := h0
  have lt0 : ∀ x ∈ p0, x.block < W.heap.size := by obtain ⟨m, hm⟩ := k0; exact DataW.trod_lt m _ _ _ hm
  obtain ⟨cs0, rfl, hsz0⟩ := okWide_struct Try.underlying32 (hval 0 32 v0 rfl rfl)
  obtain ⟨fu0, hf0⟩ := h0
  obtain ⟨ys0, n0, hd0, hyl0, hcl0, hfs0⟩ := R0.struct_fields Try.underlying32 (by kernel_rfl) (by kernel_rfl) hf0
  obtain ⟨c0_0, y0_0, hc0_0, hy0_0, ht0_0⟩ := hfs0 0 _ rfl
  obtain ⟨a0_0, rfl, hd0_0, z0_0⟩ := R0.string_cell Try.underlying9 ht0_0
  obtain ⟨c0_1, y0_1, hc0_1, hy0_1, ht0_1⟩ := hfs0 1 _ rfl
  obtain ⟨a0_1, rfl, hd0_1, z0_1⟩ := R0.string_cell Try.underlying9 ht0_1
  obtain ⟨c0_2, y0_2, hc0_2, hy0_2, ht0_2⟩ := hfs0 2 _ rfl
  obtain ⟨a0_2, rfl, hd0_2⟩ := R0.bool_cell Try.underlying4 ht0_2
  have hcs0 := R0.list3 hcl0 hc0_0 hc0_1 hc0_2
  obtain rfl := R0.list3 hyl0 hy0_0 hy0_1 hy0_2
  simp only [List.map_cons, List.map_nil, hd0_0, hd0_1, hd0_2] at hd0
  obtain rfl : cs0 = #[.string a0_0, .string a0_1, .bool a0_2] := R0.arr_of hcs0
  have x0_0 : a0_0.size ≤ 140737488351232 := by
    have q := hsz
    rw [hd0] at q
    exact R0.sized_arg q (j := 0) (t := 32) rfl rfl a0_0.data.size (by simp [DataW.weights, DataW.weightsEach, Try.underlying32, Try.underlying9, Try.underlying9, Try.underlying4])
  have x0_1 : a0_1.size ≤ 140737488351232 := by
    have q := hsz
    rw [hd0] at q
    exact R0.sized_arg q (j := 0) (t := 32) rfl rfl a0_1.data.size (by simp [DataW.weights, DataW.weightsEach, Try.underlying32, Try.underlying9, Try.underlying9, Try.underlying4])
  have k1 := h1
  have lt1 : ∀ x ∈ p1, x.block < W.heap.size := by obtain ⟨m, hm⟩ := k1; exact DataW.trod_lt m _ _ _ hm
  obtain ⟨a1, rfl, rfl, rfl, w1⟩ := open_int Try.underlying33 (hval 1 33 v1 rfl rfl) h1
  have k2 := h2
  have lt2 : ∀ x ∈ p2, x.block < W.heap.size := by obtain ⟨m, hm⟩ := k2; exact DataW.trod_lt m _ _ _ hm
  obtain ⟨a2, rfl, rfl, rfl, w2⟩ := open_int Try.underlying3 (hval 2 3 v2 rfl rfl) h2
  clear hA0 hval0 hsz0 hsz
  have hpure := NodePacks_pure a0_0 a0_1 a0_2 a1 a2
  refine (Q.pumicelaw06_NodePacks.calls a0_0 a0_1 a0_2 a1 a2 true W  hpure).mono fun e W' ⟨he, bel0⟩ => ?_
  have bel : Below W.heap.size W W' := bel0
  subst he
  exact ⟨_, rfl, _, _, _, [], _, [], hW', trodAll_mk1 (shut_bool Try.underlying4 _), (trodAll_cons_mk (Below.trod laidOut (by kernel_rfl) (of_decide_eq_true (by kernel_rfl)) k0 bel lt0) (trodAll_cons_mk (Below.trod laidOut (by kernel_rfl) (of_decide_eq_true (by kernel_rfl)) k1 bel lt1) (trodAll_cons_mk (Below.trod laidOut (by kernel_rfl) (of_decide_eq_true (by kernel_rfl)) k2 bel lt2) trodAll_mk0))), rfl, bel.frame _, fun h => by cases h⟩
set_option maxRecDepth 100000 in
theorem lifted (os : Os) (started : os.Started) (H : Type) (enc : TypeId × Value → H) :
    ReturnsInHanded {} Try.checked os 4 .any (Rows.nodePacksSpec.pre6 enc Try.prog Try.f4 Rows.nodePacksRow.domain false) (Rows.nodePacksSpec.post enc Try.prog Try.f4 false true false false) := by
  refine returnsInHanded_of_change_sized (C := Try.checked) own started (by kernel_rfl) Try.func4
    (ChangeSpec.witness6 (enc := enc) (C := Try.checked) false ⟨#[], #[.agg #[.string ByteArray.empty, .string ByteArray.empty, .bool false], .int .u64 0, .int .i64 0], []⟩ 8 (by kernel_rfl) (by kernel_rfl) (by kernel_rfl) (by kernel_rfl)) ?_
  intro W base args ds gs before hval hW _ hsz _
  exact contract H enc W base args ds gs before hval hW hsz
theorem over : Rows.nodePacksRow.holds Try.pinned (OpenSpec.ofChange Rows.nodePacksSpec) :=
  OpenClaim.holds_of_wide 4 Try.f4 rfl rfl rfl rfl rfl rfl rfl ⟨rfl, rfl, rfl, rfl, rfl⟩ rfl rfl rfl rfl rfl (by kernel_rfl) Try.func4 (by kernel_rfl)
    (of_decide_eq_true (by kernel_rfl)) (by unfold Func.isWrapper; first | (rw [if_pos (by decide +kernel)]; kernel_rfl) | (rw [if_neg (by decide +kernel)]; exact ⟨rfl, rfl⟩))
    (fun os started H enc _ => lifted os started H enc)
end Go.Proofs.Ytakchpeohmkpkaa.nodePacks
namespace Go.Proofs.Ytakchpeohmkpkaa
/-- The row. -/
theorem nodePacks_holds : Rows.NodePacksSaid := nodePacks.over
#print axioms nodePacks_holds
end Go.Proofs.Ytakchpeohmkpkaa
