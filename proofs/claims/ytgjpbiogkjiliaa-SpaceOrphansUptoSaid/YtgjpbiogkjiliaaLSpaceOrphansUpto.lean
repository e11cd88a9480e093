/- SpaceOrphansUptoSaid: the law's contract met by its plain law. Condition: the bulk of what is read is at most 1048576 (the second form). -/
import Derived.Test.YtgjpbiogkjiliaaRows
import Derived.Test.YtgjpbiogkjiliaaR0
import Derived.Test.YtgjpbiogkjiliaaBulk
import Derived.Test.YtgjpbiogkjiliaaA6
import Derived.WalkKit
import Derived.ProofKit
import Derived.OpenShut
import Derived.ShutString
import Derived.ChangeOld
import Derived.Below
import Derived.SizedLaws
import Derived.JoinedCond
import Derived.Deep.CondSized
namespace Go.Proofs.Ytgjpbiogkjiliaa.spaceOrphansUpto
open Go.ChangeShapes Go.WideShapes Go.ChangeAt Go.RowKit Go.Proofs.YtgjpbiogkjiliaaW.PrintWords Go.Proofs.Ytgjpbiogkjiliaa.Q
open Go.ChangeMaps (open_string shut_string)
set_option linter.unusedVariables false
set_option linter.unusedSimpArgs false
theorem own : ownKnob Try.prog.godebug = none := by kernel_rfl
theorem laidOut : laidOutB Try.prog = true := by kernel_rfl
def dat37 {H : Type} : S37 → DataW H := fun x : S37 => (.agg [.lit (.string x.f0.data.toList), .lit (.string x.f1.data.toList), .lit (.bool x.f2)] : DataW H)
def ok37 (x : S37) : Prop := x.f0.size ≤ maxLen ∧ x.f1.size ≤ maxLen
theorem el37 {H : Type} {enc : TypeId × Value → H} {W : World} : ∀ fuel cs (x : DataW H × List MemPlace), DataW.trod enc Try.prog W 0 (fun _ => true) true fuel 37 cs = some x → ∃ a : S37, Kd.K k37 W a cs ∧ x.1 = dat37 a ∧ ok37 a := by
  intro fuel cs x h
  obtain ⟨ys, n, hd, hyl, hcl, hfs⟩ := R0.struct_fields Try.underlying37 (by kernel_rfl) (by kernel_rfl) h
  obtain ⟨c0, y0, hc0, hy0, ht0⟩ := hfs 0 _ rfl
  obtain ⟨a0, rfl, hd0, z0⟩ := R0.string_cell Try.underlying9 ht0
  obtain ⟨c1, y1, hc1, hy1, ht1⟩ := hfs 1 _ rfl
  obtain ⟨a1, rfl, hd1, z1⟩ := R0.string_cell Try.underlying9 ht1
  obtain ⟨c2, y2, hc2, hy2, ht2⟩ := hfs 2 _ rfl
  obtain ⟨a2, rfl, hd2⟩ := R0.bool_cell Try.underlying4 ht2
  obtain rfl := R0.list3 hcl hc0 hc1 hc2
  obtain rfl := R0.list3 hyl hy0 hy1 hy2
  refine ⟨⟨a0, a1, a2⟩, k37_mk _ _, ?_, ⟨z0, z1⟩⟩
  rw [hd]
  simp only [List.map_cons, List.map_nil, hd0, hd1, hd2]
  rfl
theorem sz37 {H : Type} (x : S37) (h : Rows.uptoBulk (dat37 (H := H) x) ≤ 1048576) : x.f0.size ≤ 1048576 ∧ x.f1.size ≤ 1048576 := by
  simp only [dat37, Rows.uptoBulk, Rows.uptoBulkAll, Array.length_toList] at h
  have q0 : x.f0.size = x.f0.data.size := rfl
  have q1 : x.f1.size = x.f1.data.size := rfl
  refine ⟨?_, ?_⟩ <;> omega
set_option maxRecDepth 100000 in
set_option maxHeartbeats 1600000 in
theorem contract (H : Type) (enc : TypeId × Value → H) (F : Stop.Interp) (W : World) (base : Nat) (args : Array Value) (ds gs : List (DataW H)) (before : List MemPlace)
    (hval0 : ∀ (j : Nat) t v, Try.f9.params[j]? = some t → args[j]? = some v → Value.okWide Try.prog W .any base t v)
    (hW : DataW.Whole enc Try.prog Try.f9.params.toList (Rows.OpenSpec.upto Rows.spaceOrphansSpec).vars false W args.toList ds gs before) (hk : Rows.uptoSmall H (ds ++ gs) = true) :
    Calls Try.prog 9 args W fun e W' => ∃ v, e = .returned v ∧ ((Rows.OpenSpec.upto Rows.spaceOrphansSpec).at F).post enc Try.prog Try.f9 false true false false W args v W' := by
  have hval : ∀ (j : Nat) t v, Try.f9.params[j]? = some t → args[j]? = some v → Value.okWide Try.prog W .any base t v := hval0
  have hW' := hW
  obtain ⟨p, q, hA0, hV, rfl, hfz, hnd⟩ := hW
  have hA : DataW.TrodAll enc Try.prog W 0 (fun _ => true) true Try.f9.params.toList args.toList ds p := hA0
  rw [Try.params9] at hA hval
  obtain ⟨v0, vs0, d0, ds0, p0, q0, hargs, rfl, rfl, h0, r0⟩ := trodAll_cons hA
  obtain ⟨v1, vs1, d1, ds1, p1, q1, rfl, rfl, rfl, h1, r1⟩ := trodAll_cons r0
  obtain ⟨v2, vs2, d2, ds2, p2, q2, rfl, rfl, rfl, h2, r2⟩ := trodAll_cons r1
  obtain ⟨v3, vs3, d3, ds3, p3, q3, rfl, rfl, rfl, h3, r3⟩ := trodAll_cons r2
  obtain ⟨v4, vs4, d4, ds4, p4, q4, rfl, rfl, rfl, h4, r4⟩ := trodAll_cons r3
  obtain ⟨rfl, rfl, rfl⟩ := trodAll_nil r4
  obtain rfl : args = #[v0, v1, v2, v3, v4] := by cases args; simp_all
  obtain ⟨rfl, rfl⟩ := trodVars_none hV
  have hk2 : Rows.uptoBulkAll [d0, d1, d2, d3, d4] ≤ 1048576 := by
    have hk1 := of_decide_eq_true hk
    simpa using hk1
  simp only [Rows.uptoBulkAll] at hk2
  have k0 := h0
  have lt0 : ∀ x ∈ p0, x.block < W.heap.size := by obtain ⟨m, hm⟩ := k0; exact DataW.trod_lt m _ _ _ hm
  obtain ⟨A0, l0, c0, sp0, rfl, hc0, hr0, hd0, o0⟩ := R0.slice_open k37 dat37 ok37 Try.underlying30 (by kernel_rfl) el37 (hval 0 30 v0 rfl rfl) h0
  have m0 : l0.length ≤ 1048576 := by
    rcases hd0 with ⟨hD, hl⟩ | hD
    · rw [hl]; simp
    · have q := hk2
      rw [hD] at q
      have q1 := bulks.slice_le (H := H) (l0.map dat37) sp0
      simp only [List.length_map] at q1
      omega
  have e0 : ∀ x ∈ l0, x.f0.size ≤ 1048576 ∧ x.f1.size ≤ 1048576 := by
    intro x hx
    rcases hd0 with ⟨hD, hl⟩ | hD
    · rw [hl] at hx; cases hx
    · have q := hk2
      rw [hD] at q
      have q1 := bulks.slice_elems (H := H) (l0.map dat37) sp0
      have q2 := bulks.part_le (List.mem_map_of_mem (f := dat37 (H := H)) hx)
      exact sz37 x (by omega)
  have k1 := h1
  have lt1 : ∀ x ∈ p1, x.block < W.heap.size := by obtain ⟨m, hm⟩ := k1; exact DataW.trod_lt m _ _ _ hm
  obtain ⟨a1, rfl, rfl, rfl, w1⟩ := open_int Try.underlying3 (hval 1 3 v1 rfl rfl) h1
  have k2 := h2
  have lt2 : ∀ x ∈ p2, x.block < W.heap.size := by obtain ⟨m, hm⟩ := k2; exact DataW.trod_lt m _ _ _ hm
  obtain ⟨a2, rfl, rfl, rfl, w2⟩ := open_int Try.underlying3 (hval 2 3 v2 rfl rfl) h2
  have k3 := h3
  have lt3 : ∀ x ∈ p3, x.block < W.heap.size := by obtain ⟨m, hm⟩ := k3; exact DataW.trod_lt m _ _ _ hm
  obtain ⟨a3, rfl, rfl, rfl, y3⟩ := open_string Try.underlying9 (hval 3 9 v3 rfl rfl) h3
  have z3 : a3.size ≤ 1048576 := by
    have q := hk2
    simp only [Rows.uptoBulk, Array.length_toList] at q
    have e : a3.size = a3.data.size := rfl
    omega
  have k4 := h4
  have lt4 : ∀ x ∈ p4, x.block < W.heap.size := by obtain ⟨m, hm⟩ := k4; exact DataW.trod_lt m _ _ _ hm
  obtain ⟨a4, rfl, rfl, rfl, w4⟩ := open_int Try.underlying3 (hval 4 3 v4 rfl rfl) h4
  clear hA0 hval0
  obtain ⟨kk, hpure⟩ := SpaceOrphans_pure l0 a1 a2 a3 a4 m0 e0 z3
  refine (Q.pumicelaw16_SpaceOrphans.calls kk _ _ l0 a1 a2 a3 a4 true W hr0 hc0 hpure).mono fun e W' ⟨he, bel0⟩ => ?_
  have bel : Below W.heap.size W W' := bel0
  subst he
  exact ⟨_, rfl, _, _, _, [], _, [], hW', trodAll_mk1 (shut_bool Try.underlying4 _), (trodAll_cons_mk (Below.trod laidOut (by kernel_rfl) (of_decide_eq_true (by kernel_rfl)) k0 bel lt0) (trodAll_cons_mk (Below.trod laidOut (by kernel_rfl) (of_decide_eq_true (by kernel_rfl)) k1 bel lt1) (trodAll_cons_mk (Below.trod laidOut (by kernel_rfl) (of_decide_eq_true (by kernel_rfl)) k2 bel lt2) (trodAll_cons_mk (Below.trod laidOut (by kernel_rfl) (of_decide_eq_true (by kernel_rfl)) k3 bel lt3) (trodAll_cons_mk (Below.trod laidOut (by kernel_rfl) (of_decide_eq_true (by kernel_rfl)) k4 bel lt4) trodAll_mk0))))), rfl, bel.frame _, fun h => by cases h⟩
set_option maxRecDepth 100000 in
theorem lifted (os : Os) (started : os.Started) (H : Type) (enc : TypeId × Value → H) (F : Stop.Interp) :
    ReturnsInHanded {} Try.checked os 9 .any ((Rows.OpenSpec.upto Rows.spaceOrphansSpec).pre6 enc Try.prog Try.f9 Rows.spaceOrphansUptoRow.domain false) (((Rows.OpenSpec.upto Rows.spaceOrphansSpec).at F).post enc Try.prog Try.f9 false true false false) := by
  refine returnsInHanded_of_cond (C := Try.checked) (s := Rows.OpenSpec.upto Rows.spaceOrphansSpec) (k := Rows.uptoSmall) rfl own started (by kernel_rfl) Try.func9
    (OpenSpec.witness (enc := enc) (C := Try.checked) (s := Rows.OpenSpec.upto Rows.spaceOrphansSpec) (k := Rows.uptoSmall) rfl false ⟨#[], #[.slice none 0 0, .int .i64 0, .int .i64 0, .string ByteArray.empty, .int .i64 0], []⟩ 8 (by kernel_rfl) (by kernel_rfl) (by kernel_rfl)
      (x := ([.nil, .lit (.int .i64 0), .lit (.int .i64 0), .lit (.string []), .lit (.int .i64 0)], [], [])) (by kernel_rfl) rfl (by kernel_rfl)) ?_
  intro W base args ds gs before hval hW _ hk _
  exact contract H enc F W base args ds gs before hval hW hk
theorem over : Rows.spaceOrphansUptoRow.holds Try.pinned (Rows.OpenSpec.upto Rows.spaceOrphansSpec) :=
  OpenClaim.holds_of_cond 9 Try.f9 rfl rfl rfl rfl rfl rfl rfl ⟨rfl, rfl, rfl, rfl, rfl⟩ rfl rfl rfl rfl rfl (by kernel_rfl) Try.func9 (by kernel_rfl)
    (of_decide_eq_true (by kernel_rfl)) (by unfold Func.isWrapper; first | (rw [if_pos (by decide +kernel)]; kernel_rfl) | (rw [if_neg (by decide +kernel)]; exact ⟨rfl, rfl⟩))
    (fun os started H enc _ F => lifted os started H enc F)
end Go.Proofs.Ytgjpbiogkjiliaa.spaceOrphansUpto
namespace Go.Proofs.Ytgjpbiogkjiliaa
/-- The row. -/
theorem spaceOrphansUpto_holds : Rows.SpaceOrphansUptoSaid := spaceOrphansUpto.over
#print axioms spaceOrphansUpto_holds
end Go.Proofs.Ytgjpbiogkjiliaa
