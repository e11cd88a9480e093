/- NamesOrdersSaid: the law's contract met by its plain law. No condition. -/
import Derived.Test.YthcooheghekplaaDoorRows
import Derived.Test.YthcooheghekplaaDoorR0
import Derived.Test.YthcooheghekplaaDoorA4
import Derived.Test.YthcooheghekplaaDoorL0
import Derived.Test.YthcooheghekplaaDoorTie
import Derived.Test.YthcooheghekplaaDoorCards
import Derived.WalkKit
import Derived.ProofKit
import Derived.OpenShut
import Derived.ShutString
import Derived.ChangeOld
import Derived.Below
import Derived.SizedLaws
import Derived.JoinedCond
import Derived.Deep.CondSized
import Derived.ChangeVars
import Derived.JoinedOf
import Derived.LaidLaws
import Derived.LaidHandle
import Derived.Stop.Joined
import Derived.Deep.DeepHandedRow
import Derived.SevenTiedAt
namespace Go.Proofs.YthcooheghekplaaDoor.namesOrders
open Go.ChangeShapes Go.WideShapes Go.ChangeAt Go.RowKit Go.Proofs.YthcooheghekplaaDoorW.PrintWords Go.Proofs.YthcooheghekplaaDoor.Q
open Go.ChangeMaps (open_string shut_string)
set_option linter.unusedVariables false
set_option linter.unusedSimpArgs false
theorem own : ownKnob Tryd.prog.godebug = none := by kernel_rfl
theorem laidOut : laidOutB Tryd.prog = true := by kernel_rfl
def dat9 {H : Type} : ByteArray → DataW H := fun x : ByteArray => (.lit (.string x.data.toList) : DataW H)
def ok9 (x : ByteArray) : Prop := x.size ≤ maxLen
theorem el9 {H : Type} {enc : TypeId × Value → H} {W : World} : ∀ fuel cs (x : DataW H × List MemPlace), DataW.trod enc Tryd.prog W 0 (fun _ => true) true fuel 9 cs = some x → ∃ a : ByteArray, Kd.K Kd.string W a cs ∧ x.1 = dat9 a ∧ ok9 a := by
  intro fuel cs x h
  obtain ⟨a, rfl, hx, hw⟩ := DataW.trod_string Tryd.underlying9 h
  exact ⟨a, rfl, by rw [hx]; rfl, hw⟩
theorem sz9 {H : Type} (x : ByteArray) (h : ∀ n ∈ (dat9 (H := H) x).weights Tryd.prog 9, n ≤ 140737488351232) : x.size ≤ 140737488351232 := by
  have q0 := h x.data.size (by simp [dat9, DataW.weights, DataW.weightsEach, Tryd.underlying9])
  exact q0
set_option maxRecDepth 100000 in
set_option maxHeartbeats 1600000 in
theorem contract (H : Type) (enc : TypeId × Value → H) (W : World) (base : Nat) (args : Array Value) (ds gs : List (DataW H)) (before : List MemPlace)
    (hval0 : ∀ (j : Nat) t v, Tryd.f9.params[j]? = some t → args[j]? = some v → Value.okWide Tryd.prog W .any base t v)
    (hW : DataW.Whole enc Tryd.prog Tryd.f9.params.toList Rows.namesOrdersSpec.vars false W args.toList ds gs before) (hsz0 : (DataW.weightsEach Tryd.prog (Tryd.f9.params.toList ++ Rows.namesOrdersSpec.plain.varTypes Tryd.prog) (ds ++ gs)).all (· ≤ reachBytes) = true) (hL : laidMetH Tryd.prog As.rowLaid W) :
    Calls Tryd.prog 9 args W fun e W' => ∃ v, e = .returned v ∧ Rows.namesOrdersSpec.post enc Tryd.prog Tryd.f9 false true false false W args v W' := by
  have hsz : (DataW.weightsEach Tryd.prog (Tryd.f9.params.toList ++ Rows.namesOrdersSpec.plain.varTypes Tryd.prog) (ds ++ gs)).all (· ≤ reachBytes) = true := hsz0
  have hval : ∀ (j : Nat) t v, Tryd.f9.params[j]? = some t → args[j]? = some v → Value.okWide Tryd.prog W .any base t v := hval0
  have hW' := hW
  obtain ⟨p, q, hA0, hV, rfl, hfz, hnd⟩ := hW
  have hA : DataW.TrodAll enc Tryd.prog W 0 (fun _ => true) true Tryd.f9.params.toList args.toList ds p := hA0
  rw [Tryd.params9] at hA hval hsz
  obtain ⟨v0, vs0, d0, ds0, p0, q0, hargs, rfl, rfl, h0, r0⟩ := trodAll_cons hA
  obtain ⟨v1, vs1, d1, ds1, p1, q1, rfl, rfl, rfl, h1, r1⟩ := trodAll_cons r0
  obtain ⟨v2, vs2, d2, ds2, p2, q2, rfl, rfl, rfl, h2, r2⟩ := trodAll_cons r1
  obtain ⟨v3, vs3, d3, ds3, p3, q3, rfl, rfl, rfl, h3, r3⟩ := trodAll_cons r2
  obtain ⟨rfl, rfl, rfl⟩ := trodAll_nil r3
  obtain rfl : args = #[v0, v1, v2, v3] := by cases args; simp_all
  obtain ⟨rfl, rfl⟩ := trodVars_none hV
  have k0 := h0
  have lt0 : ∀ x ∈ p0, x.block < W.heap.size := by obtain ⟨m, hm⟩ := k0; exact DataW.trod_lt m _ _ _ hm
  obtain ⟨a0, rfl, rfl, rfl, y0⟩ := open_string Tryd.underlying9 (hval 0 9 v0 rfl rfl) h0
  have z0 : a0.size ≤ 140737488351232 := by
    have z := sized_string hsz (j := 0) (t := 9) rfl rfl
    rw [Array.length_toList] at z
    exact z
  have k1 := h1
  have lt1 : ∀ x ∈ p1, x.block < W.heap.size := by obtain ⟨m, hm⟩ := k1; exact DataW.trod_lt m _ _ _ hm
  obtain ⟨a1, rfl, rfl, rfl, y1⟩ := open_string Tryd.underlying9 (hval 1 9 v1 rfl rfl) h1
  have z1 : a1.size ≤ 140737488351232 := by
    have z := sized_string hsz (j := 1) (t := 9) rfl rfl
    rw [Array.length_toList] at z
    exact z
  have k2 := h2
  have lt2 : ∀ x ∈ p2, x.block < W.heap.size := by obtain ⟨m, hm⟩ := k2; exact DataW.trod_lt m _ _ _ hm
  obtain ⟨A2, l2, c2, sp2, rfl, hc2, hr2, hd2, o2⟩ := R0.slice_open Kd.string dat9 ok9 Tryd.underlying22 (by kernel_rfl) el9 (hval 2 22 v2 rfl rfl) h2
  have m2 : l2.length * Tryd.prog.bytesOf 9 ≤ 140737488351232 := by
    rcases hd2 with ⟨hD, hl⟩ | hD
    · rw [hl]; simp
    · have q := hsz
      rw [hD] at q
      have q1 := R0.sized_len q (j := 2) (t := 22) rfl rfl Tryd.underlying22
      simpa using q1
  have e2 : ∀ x ∈ l2, x.size ≤ 140737488351232 := by
    intro x hx
    rcases hd2 with ⟨hD, hl⟩ | hD
    · rw [hl] at hx; cases hx
    · have q := hsz
      rw [hD] at q
      exact sz9 x (R0.sized_elem q (j := 2) (t := 22) rfl rfl Tryd.underlying22 (List.mem_map_of_mem hx))
  have k3 := h3
  have lt3 : ∀ x ∈ p3, x.block < W.heap.size := by obtain ⟨m, hm⟩ := k3; exact DataW.trod_lt m _ _ _ hm
  obtain ⟨A3, l3, c3, sp3, rfl, hc3, hr3, hd3, o3⟩ := R0.slice_open Kd.string dat9 ok9 Tryd.underlying22 (by kernel_rfl) el9 (hval 3 22 v3 rfl rfl) h3
  have m3 : l3.length * Tryd.prog.bytesOf 9 ≤ 140737488351232 := by
    rcases hd3 with ⟨hD, hl⟩ | hD
    · rw [hl]; simp
    · have q := hsz
      rw [hD] at q
      have q1 := R0.sized_len q (j := 3) (t := 22) rfl rfl Tryd.underlying22
      simpa using q1
  have e3 : ∀ x ∈ l3, x.size ≤ 140737488351232 := by
    intro x hx
    rcases hd3 with ⟨hD, hl⟩ | hD
    · rw [hl] at hx; cases hx
    · have q := hsz
      rw [hD] at q
      exact sz9 x (R0.sized_elem q (j := 3) (t := 22) rfl rfl Tryd.underlying22 (List.mem_map_of_mem hx))
  clear hA0 hval0 hsz0 hsz
  have hpure := Q.orders_plain a0 a1 l2 l3 140737488351232 (by omega) (by omega) (by have h_ := m2; have hb_ : Tryd.prog.bytesOf 9 = 16 := (by kernel_rfl); rw [hb_] at h_; omega) e2 (by omega) (k := (l2.length * (l2.length + 2) + 2 * 140737488351232 + 2 * a0.size + l2.length + 100)) (by omega)
  refine (Q.pumicelaw02_NamesOrders.calls (l2.length * (l2.length + 2) + 2 * 140737488351232 + 2 * a0.size + l2.length + 100) a0 a1 _ _ l2 _ _ l3 true W hr2 hc2 hr3 hc3 hpure).mono fun e W' ⟨he, bel0⟩ => ?_
  have bel : Below W.heap.size W W' := bel0
  subst he
  exact ⟨_, rfl, _, _, _, [], _, [], hW', trodAll_mk1 (shut_bool Tryd.underlying4 _), (trodAll_cons_mk (Below.trod laidOut (by kernel_rfl) (of_decide_eq_true (by kernel_rfl)) k0 bel lt0) (trodAll_cons_mk (Below.trod laidOut (by kernel_rfl) (of_decide_eq_true (by kernel_rfl)) k1 bel lt1) (trodAll_cons_mk (Below.trod laidOut (by kernel_rfl) (of_decide_eq_true (by kernel_rfl)) k2 bel lt2) (trodAll_cons_mk (Below.trod laidOut (by kernel_rfl) (of_decide_eq_true (by kernel_rfl)) k3 bel lt3) trodAll_mk0)))), rfl, bel.frame _, fun h => by cases h⟩
set_option maxRecDepth 100000 in
theorem lifted (os : Os) (started : os.Started) (H : Type) (enc : TypeId × Value → H) :
    ReturnsInHanded {} Tryd.checked os 9 .any (fun w args => (Rows.namesOrdersSpec.pre enc Tryd.prog Tryd.f9 [] false w args ∧ laidMetH Tryd.prog As.rowLaid w) ∧ sizedMet enc Tryd.prog Tryd.f9 (OpenSpec.ofChange Rows.namesOrdersSpec) false w args) (Rows.namesOrdersSpec.post enc Tryd.prog Tryd.f9 false true false false) := by
  refine returnsInHanded_of_change_and (C := Tryd.checked) (X := (fun w _ => laidMetH Tryd.prog As.rowLaid w)) (fun _ _ _ hh h => h.of_heap hh) own started (by kernel_rfl) Tryd.func9
    (ChangeSpec.witness_at (enc := enc) (C := Tryd.checked) (os := os) (X := (fun w _ => laidMetH Tryd.prog As.rowLaid w)) false (As.laidWorld os) #[.string ByteArray.empty, .string ByteArray.empty, .slice none 0 0, .slice none 0 0] 8 rfl (by kernel_rfl) (by kernel_rfl) (by kernel_rfl) (by kernel_rfl) (by kernel_rfl) (As.laidWorld_met os _)) ?_
  intro W base args ds gs before hval hW _ hsz hL _
  exact contract H enc W base args ds gs before hval hW hsz hL
theorem over : Rows.namesOrdersRow.holds Tryd.pinned (OpenSpec.ofChange Rows.namesOrdersSpec) :=
  OpenClaim.holds_of_wide 9 Tryd.f9 rfl rfl rfl rfl rfl rfl rfl ⟨rfl, rfl, rfl, rfl, rfl⟩ rfl rfl rfl rfl rfl (by kernel_rfl) Tryd.func9 (by kernel_rfl)
    (of_decide_eq_true (by kernel_rfl)) (by unfold Func.isWrapper; first | (rw [if_pos (by decide +kernel)]; kernel_rfl) | (rw [if_neg (by decide +kernel)]; exact ⟨rfl, rfl⟩))
    (fun os started H enc _ => lifted os started H enc)
theorem card : Rows.NamesOrdersCardSaid :=
  Claim7.holds_tied_plain_at .later [] [.data, .pinned] true (true, "81f1ea4f3d63411db3958f1d3eb5d23f87bf90ba1fbeab9d2022c0637038fda1") false
    over (fun _ h => by cases h) (by kernel_rfl) (fun _ h => by cases h) namesOrders_row_tie rfl ⟨rfl, rfl⟩ (by kernel_rfl) rfl
    (fun f fn hf hfn => by
      obtain rfl : f = 9 := Option.some.inj ((show Tryd.prog.funcNamed "pumice/pumicelaw02.NamesOrders" = some 9 by kernel_rfl).symm.trans hf) |>.symm
      obtain rfl : fn = Tryd.f9 := (Option.some.inj (Tryd.func9.symm.trans hfn)).symm
      exact ⟨by kernel_rfl, fun j t ht => by
        rw [Tryd.params9] at ht
        have hm := Array.mem_of_getElem? ht
        simp only [List.mem_toArray, List.mem_cons, List.not_mem_nil, or_false] at hm
        rcases hm with rfl | rfl | rfl | rfl
        · exact (show Tryd.prog.wantsStandIn 9 = false by kernel_rfl)
        · exact (show Tryd.prog.wantsStandIn 9 = false by kernel_rfl)
        · exact (show Tryd.prog.wantsStandIn 22 = false by kernel_rfl)
        · exact (show Tryd.prog.wantsStandIn 22 = false by kernel_rfl)⟩)
    (by kernel_rfl)
end Go.Proofs.YthcooheghekplaaDoor.namesOrders
namespace Go.Proofs.YthcooheghekplaaDoor
/-- The row. -/
theorem namesOrders_holds : Rows.NamesOrdersCardSaid := namesOrders.card
#print axioms namesOrders_holds
end Go.Proofs.YthcooheghekplaaDoor
