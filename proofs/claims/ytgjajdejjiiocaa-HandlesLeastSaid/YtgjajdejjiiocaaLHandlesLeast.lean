/- HandlesLeastSaid: the law's contract met by its plain law. No condition. -/
import Derived.Test.YtgjajdejjiiocaaRows
import Derived.Test.YtgjajdejjiiocaaR0
import Derived.Test.YtgjajdejjiiocaaG1
import Derived.WalkKit
import Derived.ProofKit
import Derived.OpenShut
import Derived.ShutString
import Derived.ChangeOld
import Derived.Below
import Derived.SizedLaws
import Derived.JoinedCond
import Derived.Deep.CondSized
namespace Go.Proofs.Ytgjajdejjiiocaa.handlesLeast
open Go.ChangeShapes Go.WideShapes Go.ChangeAt Go.RowKit Go.Proofs.YtgjajdejjiiocaaW.PrintWords Go.Proofs.Ytgjajdejjiiocaa.Q
open Go.ChangeMaps (open_string shut_string)
set_option linter.unusedVariables false
set_option linter.unusedSimpArgs false
theorem own : ownKnob Try.prog.godebug = none := by kernel_rfl
theorem laidOut : laidOutB Try.prog = true := by kernel_rfl
def dat3 {H : Type} : Int → DataW H := fun x : Int => (.lit (.int .i64 x) : DataW H)
def ok3 (x : Int) : Prop := (Lit.int .i64 x).wf = true
theorem el3 {H : Type} {enc : TypeId × Value → H} {W : World} : ∀ fuel cs (x : DataW H × List MemPlace), DataW.trod enc Try.prog W 0 (fun _ => true) true fuel 3 cs = some x → ∃ a : Int, Kd.K (Kd.int .i64) W a cs ∧ x.1 = dat3 a ∧ ok3 a := by
  intro fuel cs x h
  obtain ⟨a, rfl, hx, hw⟩ := DataW.trod_int Try.underlying3 h
  exact ⟨a, rfl, by rw [hx]; rfl, hw⟩
set_option maxRecDepth 100000 in
set_option maxHeartbeats 1600000 in
theorem contract (H : Type) (enc : TypeId × Value → H) (W : World) (base : Nat) (args : Array Value) (ds gs : List (DataW H)) (before : List MemPlace)
    (hval0 : ∀ (j : Nat) t v, Try.f3.params[j]? = some t → args[j]? = some v → Value.okWide Try.prog W .any base t v)
    (hW : DataW.Whole enc Try.prog Try.f3.params.toList Rows.handlesLeastSpec.vars false W args.toList ds gs before) (hsz0 : (DataW.weightsEach Try.prog (Try.f3.params.toList ++ Rows.handlesLeastSpec.plain.varTypes Try.prog) (ds ++ gs)).all (· ≤ reachBytes) = true) :
    Calls Try.prog 3 args W fun e W' => ∃ v, e = .returned v ∧ Rows.handlesLeastSpec.post enc Try.prog Try.f3 false true false false W args v W' := by
  have hsz : (DataW.weightsEach Try.prog (Try.f3.params.toList ++ Rows.handlesLeastSpec.plain.varTypes Try.prog) (ds ++ gs)).all (· ≤ reachBytes) = true := hsz0
  have hval : ∀ (j : Nat) t v, Try.f3.params[j]? = some t → args[j]? = some v → Value.okWide Try.prog W .any base t v := hval0
  have hW' := hW
  obtain ⟨p, q, hA0, hV, rfl, hfz, hnd⟩ := hW
  have hA : DataW.TrodAll enc Try.prog W 0 (fun _ => true) true Try.f3.params.toList args.toList ds p := hA0
  rw [Try.params3] at hA hval hsz
  obtain ⟨v0, vs0, d0, ds0, p0, q0, hargs, rfl, rfl, h0, r0⟩ := trodAll_cons hA
  obtain ⟨rfl, rfl, rfl⟩ := trodAll_nil r0
  obtain rfl : args = #[v0] := by cases args; simp_all
  obtain ⟨rfl, rfl⟩ := trodVars_none hV
  have k0 := h0
  have lt0 : ∀ x ∈ p0, x.block < W.heap.size := by obtain ⟨m, hm⟩ := k0; exact DataW.trod_lt m _ _ _ hm
  obtain ⟨A0, l0, c0, sp0, rfl, hc0, hr0, hd0, o0⟩ := R0.slice_open (Kd.int .i64) dat3 ok3 Try.underlying22 (by kernel_rfl) el3 (hval 0 22 v0 rfl rfl) h0
  have m0 : l0.length * Try.prog.bytesOf 3 ≤ 140737488351232 := by
    rcases hd0 with ⟨hD, hl⟩ | hD
    · rw [hl]; simp
    · have q := hsz
      rw [hD] at q
      have q1 := R0.sized_len q (j := 0) (t := 22) rfl rfl Try.underlying22
      simpa using q1
  clear hA0 hval0 hsz0 hsz
  have hpure := (show pumicelaw23_HandlesLeast.f l0 = some true from rfl)
  refine (Q.pumicelaw23_HandlesLeast.calls _ _ l0 true W hr0 hc0 hpure).mono fun e W' ⟨he, bel0⟩ => ?_
  have bel : Below W.heap.size W W' := bel0
  subst he
  exact ⟨_, rfl, _, _, _, [], _, [], hW', trodAll_mk1 (shut_bool Try.underlying4 _), (trodAll_cons_mk (Below.trod laidOut (by kernel_rfl) (of_decide_eq_true (by kernel_rfl)) k0 bel lt0) trodAll_mk0), rfl, bel.frame _, fun h => by cases h⟩
set_option maxRecDepth 100000 in
theorem lifted (os : Os) (started : os.Started) (H : Type) (enc : TypeId × Value → H) :
    ReturnsInHanded {} Try.checked os 3 .any (Rows.handlesLeastSpec.pre6 enc Try.prog Try.f3 Rows.handlesLeastRow.domain false) (Rows.handlesLeastSpec.post enc Try.prog Try.f3 false true false false) := by
  refine returnsInHanded_of_change_sized (C := Try.checked) own started (by kernel_rfl) Try.func3
    (ChangeSpec.witness6 (enc := enc) (C := Try.checked) false ⟨#[], #[.slice none 0 0], []⟩ 8 (by kernel_rfl) (by kernel_rfl) (by kernel_rfl) (by kernel_rfl)) ?_
  intro W base args ds gs before hval hW _ hsz _
  exact contract H enc W base args ds gs before hval hW hsz
theorem over : Rows.handlesLeastRow.holds Try.pinned (OpenSpec.ofChange Rows.handlesLeastSpec) :=
  OpenClaim.holds_of_wide 3 Try.f3 rfl rfl rfl rfl rfl rfl rfl ⟨rfl, rfl, rfl, rfl, rfl⟩ rfl rfl rfl rfl rfl (by kernel_rfl) Try.func3 (by kernel_rfl)
    (of_decide_eq_true (by kernel_rfl)) (by unfold Func.isWrapper; first | (rw [if_pos (by decide +kernel)]; kernel_rfl) | (rw [if_neg (by decide +kernel)]; exact ⟨rfl, rfl⟩))
    (fun os started H enc _ => lifted os started H enc)
end Go.Proofs.Ytgjajdejjiiocaa.handlesLeast
namespace Go.Proofs.Ytgjajdejjiiocaa
/-- The row. -/
theorem handlesLeast_holds : Rows.HandlesLeastSaid := handlesLeast.over
#print axioms handlesLeast_holds
end Go.Proofs.Ytgjajdejjiiocaa
