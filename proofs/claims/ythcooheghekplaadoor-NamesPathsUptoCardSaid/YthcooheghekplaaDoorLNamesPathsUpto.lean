/- NamesPathsUptoSaid: the law's contract met by its plain law. Condition: the bulk of what is read is at most 1048576 (the second form). -/
import Derived.Test.YthcooheghekplaaDoorRows
import Derived.Test.YthcooheghekplaaDoorR0
import Derived.Test.YthcooheghekplaaDoorBulk
import Derived.Test.YthcooheghekplaaDoorG1
import Derived.Test.YthcooheghekplaaDoorL0
import Derived.Test.YthcooheghekplaaDoorTie
import Derived.Test.YthcooheghekplaaDoorCards
import Derived.WalkKit
import Derived.ProofKit
import Derived.OpenShut
import Derived.ShutString
import Derived.ChangeOld
import Derived.Below
import Derived.SizedLaws
import Derived.JoinedCond
import Derived.Deep.CondSized
import Derived.ChangeVars
import Derived.JoinedOf
import Derived.LaidLaws
import Derived.LaidHandle
import Derived.Stop.Joined
import Derived.Deep.DeepHandedRow
import Derived.SevenTiedAt
namespace Go.Proofs.YthcooheghekplaaDoor.namesPathsUpto
open Go.ChangeShapes Go.WideShapes Go.ChangeAt Go.RowKit Go.Proofs.YthcooheghekplaaDoorW.PrintWords Go.Proofs.YthcooheghekplaaDoor.Q
open Go.ChangeMaps (open_string shut_string)
set_option linter.unusedVariables false
set_option linter.unusedSimpArgs false
theorem own : ownKnob Tryd.prog.godebug = none := by kernel_rfl
theorem laidOut : laidOutB Tryd.prog = true := by kernel_rfl
def dat9 {H : Type} : ByteArray → DataW H := fun x : ByteArray => (.lit (.string x.data.toList) : DataW H)
def ok9 (x : ByteArray) : Prop := x.size ≤ maxLen
theorem el9 {H : Type} {enc : TypeId × Value → H} {W : World} : ∀ fuel cs (x : DataW H × List MemPlace), DataW.trod enc Tryd.prog W 0 (fun _ => true) true fuel 9 cs = some x → ∃ a : ByteArray, Kd.K Kd.string W a cs ∧ x.1 = dat9 a ∧ ok9 a := by
  intro fuel cs x h
  obtain ⟨a, rfl, hx, hw⟩ := DataW.trod_string Tryd.underlying9 h
  exact ⟨a, rfl, by rw [hx]; rfl, hw⟩
theorem sz9 {H : Type} (x : ByteArray) (h : Rows.uptoBulk (dat9 (H := H) x) ≤ 1048576) : x.size ≤ 1048576 := by
  simp only [dat9, Rows.uptoBulk, Rows.uptoBulkAll, Array.length_toList] at h
  have q0 : x.size = x.data.size := rfl
  omega
set_option maxRecDepth 100000 in
set_option maxHeartbeats 1600000 in
theorem contract (H : Type) (enc : TypeId × Value → H) (F : Stop.Interp) (W : World) (base : Nat) (args : Array Value) (ds gs : List (DataW H)) (before : List MemPlace)
    (hval0 : ∀ (j : Nat) t v, Tryd.f7.params[j]? = some t → args[j]? = some v → Value.okWide Tryd.prog W .any base t v)
    (hW : DataW.Whole enc Tryd.prog Tryd.f7.params.toList (Rows.OpenSpec.upto Rows.namesPathsSpec).vars false W args.toList ds gs before) (hk : Rows.uptoSmall H (ds ++ gs) = true) (hL : laidMetH Tryd.prog As.rowLaid W) :
    Calls Tryd.prog 7 args W fun e W' => ∃ v, e = .returned v ∧ ((Rows.OpenSpec.upto Rows.namesPathsSpec).at F).post enc Tryd.prog Tryd.f7 false true false false W args v W' := by
  have hval : ∀ (j : Nat) t v, Tryd.f7.params[j]? = some t → args[j]? = some v → Value.okWide Tryd.prog W .any base t v := hval0
  have hW' := hW
  obtain ⟨p, q, hA0, hV, rfl, hfz, hnd⟩ := hW
  have hA : DataW.TrodAll enc Tryd.prog W 0 (fun _ => true) true Tryd.f7.params.toList args.toList ds p := hA0
  rw [Tryd.params7] at hA hval
  obtain ⟨v0, vs0, d0, ds0, p0, q0, hargs, rfl, rfl, h0, r0⟩ := trodAll_cons hA
  obtain ⟨v1, vs1, d1, ds1, p1, q1, rfl, rfl, rfl, h1, r1⟩ := trodAll_cons r0
  obtain ⟨v2, vs2, d2, ds2, p2, q2, rfl, rfl, rfl, h2, r2⟩ := trodAll_cons r1
  obtain ⟨rfl, rfl, rfl⟩ := trodAll_nil r2
  obtain rfl : args = #[v0, v1, v2] := by cases args; simp_all
  obtain ⟨rfl, rfl⟩ := trodVars_none hV
  have hk2 : Rows.uptoBulkAll [d0, d1, d2] ≤ 1048576 := by
    have hk1 := of_decide_eq_true hk
    simpa using hk1
  simp only [Rows.uptoBulkAll] at hk2
  have k0 := h0
  have lt0 : ∀ x ∈ p0, x.block < W.heap.size := by obtain ⟨m, hm⟩ := k0; exact DataW.trod_lt m _ _ _ hm
  obtain ⟨A0, l0, c0, sp0, rfl, hc0, hr0, hd0, o0⟩ := R0.slice_open Kd.string dat9 ok9 Tryd.underlying22 (by kernel_rfl) el9 (hval 0 22 v0 rfl rfl) h0
  have m0 : l0.length ≤ 1048576 := by
    rcases hd0 with ⟨hD, hl⟩ | hD
    · rw [hl]; simp
    · have q := hk2
      rw [hD] at q
      have q1 := bulks.slice_le (H := H) (l0.map dat9) sp0
      simp only [List.length_map] at q1
      omega
  have e0 : ∀ x ∈ l0, x.size ≤ 1048576 := by
    intro x hx
    rcases hd0 with ⟨hD, hl⟩ | hD
    · rw [hl] at hx; cases hx
    · have q := hk2
      rw [hD] at q
      have q1 := bulks.slice_elems (H := H) (l0.map dat9) sp0
      have q2 := bulks.part_le (List.mem_map_of_mem (f := dat9 (H := H)) hx)
      exact sz9 x (by omega)
  have k1 := h1
  have lt1 : ∀ x ∈ p1, x.block < W.heap.size := by obtain ⟨m, hm⟩ := k1; exact DataW.trod_lt m _ _ _ hm
  obtain ⟨a1, rfl, rfl, rfl⟩ := open_bool Tryd.underlying4 (hval 1 4 v1 rfl rfl) h1
  have k2 := h2
  have lt2 : ∀ x ∈ p2, x.block < W.heap.size := by obtain ⟨m, hm⟩ := k2; exact DataW.trod_lt m _ _ _ hm
  obtain ⟨a2, rfl, rfl, rfl, y2⟩ := open_string Tryd.underlying9 (hval 2 9 v2 rfl rfl) h2
  have z2 : a2.size ≤ 1048576 := by
    have q := hk2
    simp only [Rows.uptoBulk, Array.length_toList] at q
    have e : a2.size = a2.data.size := rfl
    omega
  clear hA0 hval0
  have hpure := (show Q.pumicelaw02_NamesPaths.f l0 a1 a2 = some true from if_pos ⟨m0, e0⟩)
  refine (Q.pumicelaw02_NamesPaths.calls _ _ l0 a1 a2 true W hr0 hc0 hpure).mono fun e W' ⟨he, bel0⟩ => ?_
  have bel : Below W.heap.size W W' := bel0
  subst he
  exact ⟨_, rfl, _, _, _, [], _, [], hW', trodAll_mk1 (shut_bool Tryd.underlying4 _), (trodAll_cons_mk (Below.trod laidOut (by kernel_rfl) (of_decide_eq_true (by kernel_rfl)) k0 bel lt0) (trodAll_cons_mk (Below.trod laidOut (by kernel_rfl) (of_decide_eq_true (by kernel_rfl)) k1 bel lt1) (trodAll_cons_mk (Below.trod laidOut (by kernel_rfl) (of_decide_eq_true (by kernel_rfl)) k2 bel lt2) trodAll_mk0))), rfl, bel.frame _, fun h => by cases h⟩
theorem reads (os : Os) {H : Type} (enc : TypeId × Value → H) : ∃ places, DataW.whole enc Tryd.prog ((As.laidWorld os).forCall (fun _ _ => 0) ⟨#[], #[.slice none 0 0, .bool false, .string ByteArray.empty], []⟩).memory Tryd.f7.params.toList (Rows.OpenSpec.upto Rows.namesPathsSpec).vars false (#[.slice none 0 0, .bool false, .string ByteArray.empty] : Array Value).toList 8 = some ([.nil, .lit (.bool false), .lit (.string [])], [], places) := ⟨[], by kernel_rfl⟩
set_option maxRecDepth 100000 in
theorem lifted (os : Os) (started : os.Started) (H : Type) (enc : TypeId × Value → H) (F : Stop.Interp) :
    ReturnsInHanded {} Tryd.checked os 7 .any ((Rows.OpenSpec.upto Rows.namesPathsSpec).preRow enc Tryd.prog Tryd.f7 Rows.namesPathsUptoRow.domain false Rows.namesPathsUptoRow.laid) (((Rows.OpenSpec.upto Rows.namesPathsSpec).at F).post enc Tryd.prog Tryd.f7 false true false false) := by
  obtain ⟨places, hx⟩ := reads os enc
  refine returnsInHanded_of_row (C := Tryd.checked) (s := Rows.OpenSpec.upto Rows.namesPathsSpec) own started (by kernel_rfl) Tryd.func7
    (witness_row_at (enc := enc) (C := Tryd.checked) false (As.laidWorld os) #[.slice none 0 0, .bool false, .string ByteArray.empty] rfl (by kernel_rfl) (by kernel_rfl) (by kernel_rfl)
      (OpenSpec.preRow_of_cond 8 hx (by kernel_rfl) (fun k hk => by cases hk; kernel_rfl) (by kernel_rfl) (As.laidWorld_met os _))) ?_
  intro W base args ds gs before hval hW _ hcond _ hL _ _
  exact contract H enc F W base args ds gs before hval hW (hcond _ rfl) hL
theorem over : Rows.namesPathsUptoRow.holds Tryd.pinned (Rows.OpenSpec.upto Rows.namesPathsSpec) :=
  OpenClaim.holds_of_cond 7 Tryd.f7 rfl rfl rfl rfl rfl rfl rfl ⟨rfl, rfl, rfl, rfl, rfl⟩ rfl rfl rfl rfl rfl (by kernel_rfl) Tryd.func7 (by kernel_rfl)
    (of_decide_eq_true (by kernel_rfl)) (by unfold Func.isWrapper; first | (rw [if_pos (by decide +kernel)]; kernel_rfl) | (rw [if_neg (by decide +kernel)]; exact ⟨rfl, rfl⟩))
    (fun os started H enc _ F => by rw [OpenClaim.pre_eq_preRow]; exact lifted os started H enc F)
theorem card : Rows.NamesPathsUptoCardSaid :=
  Claim7.holds_tied_plain_at .later [] [.data, .pinned] true (true, "81f1ea4f3d63411db3958f1d3eb5d23f87bf90ba1fbeab9d2022c0637038fda1") false
    over (fun _ h => by cases h) (by kernel_rfl) (fun _ h => by cases h) namesPathsUpto_row_tie rfl ⟨rfl, rfl⟩ (by kernel_rfl) rfl
    (fun f fn hf hfn => by
      obtain rfl : f = 7 := Option.some.inj ((show Tryd.prog.funcNamed "pumice/pumicelaw02.NamesPaths" = some 7 by kernel_rfl).symm.trans hf) |>.symm
      obtain rfl : fn = Tryd.f7 := (Option.some.inj (Tryd.func7.symm.trans hfn)).symm
      exact ⟨by kernel_rfl, fun j t ht => by
        rw [Tryd.params7] at ht
        have hm := Array.mem_of_getElem? ht
        simp only [List.mem_toArray, List.mem_cons, List.not_mem_nil, or_false] at hm
        rcases hm with rfl | rfl | rfl
        · exact (show Tryd.prog.wantsStandIn 22 = false by kernel_rfl)
        · exact (show Tryd.prog.wantsStandIn 4 = false by kernel_rfl)
        · exact (show Tryd.prog.wantsStandIn 9 = false by kernel_rfl)⟩)
    (by kernel_rfl)
end Go.Proofs.YthcooheghekplaaDoor.namesPathsUpto
namespace Go.Proofs.YthcooheghekplaaDoor
/-- The row. -/
theorem namesPathsUpto_holds : Rows.NamesPathsUptoCardSaid := namesPathsUpto.card
#print axioms namesPathsUpto_holds
end Go.Proofs.YthcooheghekplaaDoor
