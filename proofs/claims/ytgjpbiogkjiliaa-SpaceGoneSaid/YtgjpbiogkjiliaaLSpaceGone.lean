/- SpaceGoneSaid: the law's contract met by its plain law. No condition. -/
import Derived.Test.YtgjpbiogkjiliaaRows
import Derived.Test.YtgjpbiogkjiliaaR0
import Derived.Test.YtgjpbiogkjiliaaA5
import Derived.WalkKit
import Derived.ProofKit
import Derived.OpenShut
import Derived.ShutString
import Derived.ChangeOld
import Derived.Below
import Derived.SizedLaws
import Derived.JoinedCond
import Derived.Deep.CondSized
namespace Go.Proofs.Ytgjpbiogkjiliaa.spaceGone
open Go.ChangeShapes Go.WideShapes Go.ChangeAt Go.RowKit Go.Proofs.YtgjpbiogkjiliaaW.PrintWords Go.Proofs.Ytgjpbiogkjiliaa.Q
open Go.ChangeMaps (open_string shut_string)
set_option linter.unusedVariables false
set_option linter.unusedSimpArgs false
theorem own : ownKnob Try.prog.godebug = none := by kernel_rfl
theorem laidOut : laidOutB Try.prog = true := by kernel_rfl
def dat37 {H : Type} : S37 → DataW H := fun x : S37 => (.agg [.lit (.string x.f0.data.toList), .lit (.string x.f1.data.toList), .lit (.bool x.f2)] : DataW H)
def ok37 (x : S37) : Prop := x.f0.size ≤ maxLen ∧ x.f1.size ≤ maxLen
theorem el37 {H : Type} {enc : TypeId × Value → H} {W : World} : ∀ fuel cs (x : DataW H × List MemPlace), DataW.trod enc Try.prog W 0 (fun _ => true) true fuel 37 cs = some x → ∃ a : S37, Kd.K k37 W a cs ∧ x.1 = dat37 a ∧ ok37 a := by
  intro fuel cs x h
  obtain ⟨ys, n, hd, hyl, hcl, hfs⟩ := R0.struct_fields Try.underlying37 (by kernel_rfl) (by kernel_rfl) h
  obtain ⟨c0, y0, hc0, hy0, ht0⟩ := hfs 0 _ rfl
  obtain ⟨a0, rfl, hd0, z0⟩ := R0.string_cell Try.underlying9 ht0
  obtain ⟨c1, y1, hc1, hy1, ht1⟩ := hfs 1 _ rfl
  obtain ⟨a1, rfl, hd1, z1⟩ := R0.string_cell Try.underlying9 ht1
  obtain ⟨c2, y2, hc2, hy2, ht2⟩ := hfs 2 _ rfl
  obtain ⟨a2, rfl, hd2⟩ := R0.bool_cell Try.underlying4 ht2
  obtain rfl := R0.list3 hcl hc0 hc1 hc2
  obtain rfl := R0.list3 hyl hy0 hy1 hy2
  refine ⟨⟨a0, a1, a2⟩, k37_mk _ _, ?_, ⟨z0, z1⟩⟩
  rw [hd]
  simp only [List.map_cons, List.map_nil, hd0, hd1, hd2]
  rfl
theorem sz37 {H : Type} (x : S37) (h : ∀ n ∈ (dat37 (H := H) x).weights Try.prog 37, n ≤ 140737488351232) : x.f0.size ≤ 140737488351232 ∧ x.f1.size ≤ 140737488351232 := by
  have q0 := h x.f0.data.size (by simp [dat37, DataW.weights, DataW.weightsEach, Try.underlying37, Try.underlying9, Try.underlying9, Try.underlying4])
  have q1 := h x.f1.data.size (by simp [dat37, DataW.weights, DataW.weightsEach, Try.underlying37, Try.underlying9, Try.underlying9, Try.underlying4])
  exact ⟨q0, q1⟩
set_option maxRecDepth 100000 in
set_option maxHeartbeats 1600000 in
theorem contract (H : Type) (enc : TypeId × Value → H) (W : World) (base : Nat) (args : Array Value) (ds gs : List (DataW H)) (before : List MemPlace)
    (hval0 : ∀ (j : Nat) t v, Try.f6.params[j]? = some t → args[j]? = some v → Value.okWide Try.prog W .any base t v)
    (hW : DataW.Whole enc Try.prog Try.f6.params.toList Rows.spaceGoneSpec.vars false W args.toList ds gs before) (hsz0 : (DataW.weightsEach Try.prog (Try.f6.params.toList ++ Rows.spaceGoneSpec.plain.varTypes Try.prog) (ds ++ gs)).all (· ≤ reachBytes) = true) :
    Calls Try.prog 6 args W fun e W' => ∃ v, e = .returned v ∧ Rows.spaceGoneSpec.post enc Try.prog Try.f6 false true false false W args v W' := by
  have hsz : (DataW.weightsEach Try.prog (Try.f6.params.toList ++ Rows.spaceGoneSpec.plain.varTypes Try.prog) (ds ++ gs)).all (· ≤ reachBytes) = true := hsz0
  have hval : ∀ (j : Nat) t v, Try.f6.params[j]? = some t → args[j]? = some v → Value.okWide Try.prog W .any base t v := hval0
  have hW' := hW
  obtain ⟨p, q, hA0, hV, rfl, hfz, hnd⟩ := hW
  have hA : DataW.TrodAll enc Try.prog W 0 (fun _ => true) true Try.f6.params.toList args.toList ds p := hA0
  rw [Try.params6] at hA hval hsz
  obtain ⟨v0, vs0, d0, ds0, p0, q0, hargs, rfl, rfl, h0, r0⟩ := trodAll_cons hA
  obtain ⟨v1, vs1, d1, ds1, p1, q1, rfl, rfl, rfl, h1, r1⟩ := trodAll_cons r0
  obtain ⟨v2, vs2, d2, ds2, p2, q2, rfl, rfl, rfl, h2, r2⟩ := trodAll_cons r1
  obtain ⟨rfl, rfl, rfl⟩ := trodAll_nil r2
  obtain rfl : args = #[v0, v1, v2] := by cases args; simp_all
  obtain ⟨rfl, rfl⟩ := trodVars_none hV
  have k0 := h0
  have lt0 : ∀ x ∈ p0, x.block < W.heap.size := by obtain ⟨m, hm⟩ := k0; exact DataW.trod_lt m _ _ _ hm
  obtain ⟨A0, l0, c0, sp0, rfl, hc0, hr0, hd0, o0⟩ := R0.slice_open k37 dat37 ok37 Try.underlying30 (by kernel_rfl) el37 (hval 0 30 v0 rfl rfl) h0
  have m0 : l0.length * Try.prog.bytesOf 37 ≤ 140737488351232 := by
    rcases hd0 with ⟨hD, hl⟩ | hD
    · rw [hl]; simp
    · have q := hsz
      rw [hD] at q
      have q1 := R0.sized_len q (j := 0) (t := 30) rfl rfl Try.underlying30
      simpa using q1
  have e0 : ∀ x ∈ l0, x.f0.size ≤ 140737488351232 ∧ x.f1.size ≤ 140737488351232 := by
    intro x hx
    rcases hd0 with ⟨hD, hl⟩ | hD
    · rw [hl] at hx; cases hx
    · have q := hsz
      rw [hD] at q
      exact sz37 x (R0.sized_elem q (j := 0) (t := 30) rfl rfl Try.underlying30 (List.mem_map_of_mem hx))
  have k1 := h1
  have lt1 : ∀ x ∈ p1, x.block < W.heap.size := by obtain ⟨m, hm⟩ := k1; exact DataW.trod_lt m _ _ _ hm
  obtain ⟨A1, l1, c1, sp1, rfl, hc1, hr1, hd1, o1⟩ := R0.slice_open k37 dat37 ok37 Try.underlying30 (by kernel_rfl) el37 (hval 1 30 v1 rfl rfl) h1
  have m1 : l1.length * Try.prog.bytesOf 37 ≤ 140737488351232 := by
    rcases hd1 with ⟨hD, hl⟩ | hD
    · rw [hl]; simp
    · have q := hsz
      rw [hD] at q
      have q1 := R0.sized_len q (j := 1) (t := 30) rfl rfl Try.underlying30
      simpa using q1
  have e1 : ∀ x ∈ l1, x.f0.size ≤ 140737488351232 ∧ x.f1.size ≤ 140737488351232 := by
    intro x hx
    rcases hd1 with ⟨hD, hl⟩ | hD
    · rw [hl] at hx; cases hx
    · have q := hsz
      rw [hD] at q
      exact sz37 x (R0.sized_elem q (j := 1) (t := 30) rfl rfl Try.underlying30 (List.mem_map_of_mem hx))
  have k2 := h2
  have lt2 : ∀ x ∈ p2, x.block < W.heap.size := by obtain ⟨m, hm⟩ := k2; exact DataW.trod_lt m _ _ _ hm
  obtain ⟨a2, rfl, rfl, rfl, w2⟩ := open_int Try.underlying3 (hval 2 3 v2 rfl rfl) h2
  clear hA0 hval0 hsz0 hsz
  obtain ⟨kk, hpure⟩ := SpaceGone_pure l0 l1 a2 m0 m1 e0 e1
  refine (Q.pumicelaw16_SpaceGone.calls kk _ _ l0 _ _ l1 a2 true W hr0 hc0 hr1 hc1 hpure).mono fun e W' ⟨he, bel0⟩ => ?_
  have bel : Below W.heap.size W W' := bel0
  subst he
  exact ⟨_, rfl, _, _, _, [], _, [], hW', trodAll_mk1 (shut_bool Try.underlying4 _), (trodAll_cons_mk (Below.trod laidOut (by kernel_rfl) (of_decide_eq_true (by kernel_rfl)) k0 bel lt0) (trodAll_cons_mk (Below.trod laidOut (by kernel_rfl) (of_decide_eq_true (by kernel_rfl)) k1 bel lt1) (trodAll_cons_mk (Below.trod laidOut (by kernel_rfl) (of_decide_eq_true (by kernel_rfl)) k2 bel lt2) trodAll_mk0))), rfl, bel.frame _, fun h => by cases h⟩
set_option maxRecDepth 100000 in
theorem lifted (os : Os) (started : os.Started) (H : Type) (enc : TypeId × Value → H) :
    ReturnsInHanded {} Try.checked os 6 .any (Rows.spaceGoneSpec.pre6 enc Try.prog Try.f6 Rows.spaceGoneRow.domain false) (Rows.spaceGoneSpec.post enc Try.prog Try.f6 false true false false) := by
  refine returnsInHanded_of_change_sized (C := Try.checked) own started (by kernel_rfl) Try.func6
    (ChangeSpec.witness6 (enc := enc) (C := Try.checked) false ⟨#[], #[.slice none 0 0, .slice none 0 0, .int .i64 0], []⟩ 8 (by kernel_rfl) (by kernel_rfl) (by kernel_rfl) (by kernel_rfl)) ?_
  intro W base args ds gs before hval hW _ hsz _
  exact contract H enc W base args ds gs before hval hW hsz
theorem over : Rows.spaceGoneRow.holds Try.pinned (OpenSpec.ofChange Rows.spaceGoneSpec) :=
  OpenClaim.holds_of_wide 6 Try.f6 rfl rfl rfl rfl rfl rfl rfl ⟨rfl, rfl, rfl, rfl, rfl⟩ rfl rfl rfl rfl rfl (by kernel_rfl) Try.func6 (by kernel_rfl)
    (of_decide_eq_true (by kernel_rfl)) (by unfold Func.isWrapper; first | (rw [if_pos (by decide +kernel)]; kernel_rfl) | (rw [if_neg (by decide +kernel)]; exact ⟨rfl, rfl⟩))
    (fun os started H enc _ => lifted os started H enc)
end Go.Proofs.Ytgjpbiogkjiliaa.spaceGone
namespace Go.Proofs.Ytgjpbiogkjiliaa
/-- The row. -/
theorem spaceGone_holds : Rows.SpaceGoneSaid := spaceGone.over
#print axioms spaceGone_holds
end Go.Proofs.Ytgjpbiogkjiliaa
