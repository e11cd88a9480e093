/- Q14, A12, LNodeBack -/
import Derived.Test.YtakchpeohmkpkaaRows
import Derived.WalkKit
import Derived.ProofKit
import Derived.OpenShut
import Derived.ShutString
import Derived.ChangeOld
import Derived.Below
import Derived.SizedLaws
import Derived.JoinedCond
import Derived.Deep.CondSized
import Derived.Test.YtakchpeohmkpkaaBa
import Derived.Test.YtakchpeohmkpkaaBc
import Derived.Test.YtakchpeohmkpkaaBd
import Derived.Test.YtakchpeohmkpkaaBe
namespace Go.Proofs.Ytakchpeohmkpkaa.Q
open Go.RowKit Go.Proofs.YtakchpeohmkpkaaW.PrintWords Go.Proofs.YtakchpeohmkpkaaW.PrintLast Go.Proofs.YtakchpeohmkpkaaW.PrintMore
attribute [local go_sem] max2_int min2_int max_two min_two max_three min_three max_four min_four   -- for this text's walks alone
set_option linter.unusedVariables false
set_option linter.unusedSimpArgs false

attribute [local go_sem high] eqA32 eqA52 eqA59
/-! ### pumicelaw06_NodeBack: function 9 -/
mutual
def pumicelaw06_NodeBack.j0 : Nat → Int → Int → ByteArray → Int → Int → ByteArray → ByteArray → Bool → Option (Bool)
  | 0, _, _, _, _, _, _, _, _ => none
  | k + 1, x1, x4, x328000, x328001, x328002, x329000, x329001, x329002 => (node_Entry.f x1 x328000 x328001 x328002).bind fun bt343 => (if bt343.2.2.2 = 0 then ((node_ParseEntry.f bt343.1 bt343.2.1 bt343.2.2.1).bind fun bt348 => (if bt348.2.2.2.2 = true then (if bt348.1 = x1 then (if (!(bt348.2.1.toList == x328000.toList) || (!(bt348.2.2.1 == x328001) || (!(bt348.2.2.2.1 == x328002)))) = true then (none) else (pumicelaw06_NodeBack.j1 k x4 x329000 x329001 x329002)) else (none)) else (none))) else (pumicelaw06_NodeBack.j1 k x4 x329000 x329001 x329002))
def pumicelaw06_NodeBack.j1 : Nat → Int → ByteArray → ByteArray → Bool → Option (Bool)
  | 0, _, _, _, _ => none
  | k + 1, x4, x329000, x329001, x329002 => (node_Pack.f x329000 x329001 x329002).bind fun bt354 => (if bt354.2 = 0 then ((node_Unpack.f bt354.1).bind fun bt358 => (if bt358.2.2.2 = true then (if (!(bt358.1.toList == x329000.toList) || (!(bt358.2.1.toList == x329001.toList) || (!(bt358.2.2.1 == x329002)))) = true then (pumicelaw06_NodeBack.j2 k x4 bt354.1 true) else ((node_Size.f x329000 x329001 x329002).bind fun t363 => (pumicelaw06_NodeBack.j2 k x4 bt354.1 (t363 != (wrap64 (6 + (bt354.1.length : Int))))))) else (pumicelaw06_NodeBack.j2 k x4 bt354.1 true))) else (pumicelaw06_NodeBack.j3 k x4))
def pumicelaw06_NodeBack.j3 : Nat → Int → Option (Bool)
  | 0, _ => none
  | k + 1, x4 => (node_Mark.f x4 (wrap64 (1 + (wrap64 (Int.tmod x4 16))))).bind fun bt367 => ((node_ParseMark.f bt367.1).bind fun bt371 => ((node_Unpack.f bt367.1).bind fun bt374 => (if bt367.2 = 0 then (if bt371.2.2 = true then (if bt371.1 = x4 then (if bt371.2.1 = (wrap64 (1 + (wrap64 (Int.tmod x4 16)))) then (if bt374.2.2.2 = true then (none) else ((pumicelaw06_alive.f).bind fun t379 => (some t379))) else (none)) else (none)) else (none)) else (none))))
def pumicelaw06_NodeBack.j2 : Nat → Int → List Int → Bool → Option (Bool)
  | 0, _, _, _ => none
  | k + 1, x4, x19, x103 => if x103 = true then (none) else ((node_ParseMark.f x19).bind fun bt364 => (if bt364.2.2 = true then (none) else (pumicelaw06_NodeBack.j3 k x4)))
end
def pumicelaw06_NodeBack.f (k : Nat) (a0_0 : Int) (a0_1 : Int) (a0_2 : Int) (a0_3 : Int) (a0_4 : Int) (a0_5 : Int) (a0_6 : Int) (a1 : Int) (a2_0 : ByteArray) (a2_1 : Int) (a2_2 : Int) (a3_0 : ByteArray) (a3_1 : ByteArray) (a3_2 : Bool) (a4 : Int) : Option (Bool) := (node_Inode.f a0_0 a0_1 a0_2 a0_3 a0_4 a0_5 a0_6).bind fun bt329 => (if bt329.2.2.2 = 0 then ((node_ParseInode.f bt329.1 bt329.2.1 bt329.2.2.1).bind fun bt334 => (if bt334.2.2.2.2.2.2.2 = true then (if (!(bt334.1 == a0_0) || (!(bt334.2.1 == a0_1) || (!(bt334.2.2.1 == a0_2) || (!(bt334.2.2.2.1 == a0_3) || (!(bt334.2.2.2.2.1 == a0_4) || (!(bt334.2.2.2.2.2.1 == a0_5) || (!(bt334.2.2.2.2.2.2.1 == a0_6)))))))) = true then (none) else (pumicelaw06_NodeBack.j0 k a1 a4 a2_0 a2_1 a2_2 a3_0 a3_1 a3_2)) else (none))) else (pumicelaw06_NodeBack.j0 k a1 a4 a2_0 a2_1 a2_2 a3_0 a3_1 a3_2))
theorem pumicelaw06_NodeBack.mono_l : ∀ k, (∀ y0 y1 y2 y3 y4 y5 y6 y7, LeO (pumicelaw06_NodeBack.j0 k y0 y1 y2 y3 y4 y5 y6 y7) (pumicelaw06_NodeBack.j0 (k + 1) y0 y1 y2 y3 y4 y5 y6 y7)) ∧ (∀ y0 y1 y2 y3, LeO (pumicelaw06_NodeBack.j1 k y0 y1 y2 y3) (pumicelaw06_NodeBack.j1 (k + 1) y0 y1 y2 y3)) ∧ (∀ y0, LeO (pumicelaw06_NodeBack.j3 k y0) (pumicelaw06_NodeBack.j3 (k + 1) y0)) ∧ (∀ y0 y1 y2, LeO (pumicelaw06_NodeBack.j2 k y0 y1 y2) (pumicelaw06_NodeBack.j2 (k + 1) y0 y1 y2))
  | 0 => ⟨fun _ _ _ _ _ _ _ _ r h => by simp [pumicelaw06_NodeBack.j0] at h, fun _ _ _ _ r h => by simp [pumicelaw06_NodeBack.j1] at h, fun _ r h => by simp [pumicelaw06_NodeBack.j3] at h, fun _ _ _ r h => by simp [pumicelaw06_NodeBack.j2] at h⟩
  | k + 1 => by
    obtain ⟨ih0, ih1, ih2, ih3⟩ := pumicelaw06_NodeBack.mono_l k
    refine ⟨?_, ?_, ?_, ?_⟩
    · intro y0 y1 y2 y3 y4 y5 y6 y7
      unfold pumicelaw06_NodeBack.j0
      repeat' first
      | (with_reducible exact ih0 _ _ _ _ _ _ _ _)
      | (with_reducible exact ih1 _ _ _ _)
      | (with_reducible exact ih2 _)
      | (with_reducible exact ih3 _ _ _)
      | (with_reducible exact LeO.refl _)
      | (with_reducible exact LeO.none _)
      | (with_reducible refine LeO.ite ?_ ?_)
      | (with_reducible refine LeO.bind ?_ (fun _ => ?_))
      | exact ih0 _ _ _ _ _ _ _ _
      | exact ih1 _ _ _ _
      | exact ih2 _
      | exact ih3 _ _ _
      | exact LeO.none _
      | refine LeO.ite ?_ ?_
      | refine LeO.bind ?_ (fun _ => ?_)
    · intro y0 y1 y2 y3
      unfold pumicelaw06_NodeBack.j1
      repeat' first
      | (with_reducible exact ih0 _ _ _ _ _ _ _ _)
      | (with_reducible exact ih1 _ _ _ _)
      | (with_reducible exact ih2 _)
      | (with_reducible exact ih3 _ _ _)
      | (with_reducible exact LeO.refl _)
      | (with_reducible exact LeO.none _)
      | (with_reducible refine LeO.ite ?_ ?_)
      | (with_reducible refine LeO.bind ?_ (fun _ => ?_))
      | exact ih0 _ _ _ _ _ _ _ _
      | exact ih1 _ _ _ _
      | exact ih2 _
      | exact ih3 _ _ _
      | exact LeO.none _
      | refine LeO.ite ?_ ?_
      | refine LeO.bind ?_ (fun _ => ?_)
    · intro y0
      unfold pumicelaw06_NodeBack.j3
      repeat' first
      | (with_reducible exact ih0 _ _ _ _ _ _ _ _)
      | (with_reducible exact ih1 _ _ _ _)
      | (with_reducible exact ih2 _)
      | (with_reducible exact ih3 _ _ _)
      | (with_reducible exact LeO.refl _)
      | (with_reducible exact LeO.none _)
      | (with_reducible refine LeO.ite ?_ ?_)
      | (with_reducible refine LeO.bind ?_ (fun _ => ?_))
      | exact ih0 _ _ _ _ _ _ _ _
      | exact ih1 _ _ _ _
      | exact ih2 _
      | exact ih3 _ _ _
      | exact LeO.none _
      | refine LeO.ite ?_ ?_
      | refine LeO.bind ?_ (fun _ => ?_)
    · intro y0 y1 y2
      unfold pumicelaw06_NodeBack.j2
      repeat' first
      | (with_reducible exact ih0 _ _ _ _ _ _ _ _)
      | (with_reducible exact ih1 _ _ _ _)
      | (with_reducible exact ih2 _)
      | (with_reducible exact ih3 _ _ _)
      | (with_reducible exact LeO.refl _)
      | (with_reducible exact LeO.none _)
      | (with_reducible refine LeO.ite ?_ ?_)
      | (with_reducible refine LeO.bind ?_ (fun _ => ?_))
      | exact ih0 _ _ _ _ _ _ _ _
      | exact ih1 _ _ _ _
      | exact ih2 _
      | exact ih3 _ _ _
      | exact LeO.none _
      | refine LeO.ite ?_ ?_
      | refine LeO.bind ?_ (fun _ => ?_)
theorem pumicelaw06_NodeBack.mono : ∀ a0 a1 a2 a3 a4 a5 a6 a7 a8 a9 a10 a11 a12 a13 a14 k, LeO (pumicelaw06_NodeBack.f k a0 a1 a2 a3 a4 a5 a6 a7 a8 a9 a10 a11 a12 a13 a14) (pumicelaw06_NodeBack.f (k + 1) a0 a1 a2 a3 a4 a5 a6 a7 a8 a9 a10 a11 a12 a13 a14) := by
  intro a0 a1 a2 a3 a4 a5 a6 a7 a8 a9 a10 a11 a12 a13 a14 k
  obtain ⟨ih0, ih1, ih2, ih3⟩ := pumicelaw06_NodeBack.mono_l k
  unfold pumicelaw06_NodeBack.f
  repeat' first
      | (with_reducible exact ih0 _ _ _ _ _ _ _ _)
      | (with_reducible exact ih1 _ _ _ _)
      | (with_reducible exact ih2 _)
      | (with_reducible exact ih3 _ _ _)
      | (with_reducible exact LeO.refl _)
      | (with_reducible exact LeO.none _)
      | (with_reducible refine LeO.ite ?_ ?_)
      | (with_reducible refine LeO.bind ?_ (fun _ => ?_))
      | exact ih0 _ _ _ _ _ _ _ _
      | exact ih1 _ _ _ _
      | exact ih2 _
      | exact ih3 _ _ _
      | exact LeO.none _
      | refine LeO.ite ?_ ?_
      | refine LeO.bind ?_ (fun _ => ?_)
set_option maxHeartbeats 8000000 in
set_option maxRecDepth 100000 in
theorem pumicelaw06_NodeBack.calls (k : Nat) (a0_0 : Int) (a0_1 : Int) (a0_2 : Int) (a0_3 : Int) (a0_4 : Int) (a0_5 : Int) (a0_6 : Int) (a1 : Int) (a2_0 : ByteArray) (a2_1 : Int) (a2_2 : Int) (a3_0 : ByteArray) (a3_1 : ByteArray) (a3_2 : Bool) (a4 : Int) (r : Bool) (w : World) (h : pumicelaw06_NodeBack.f k a0_0 a0_1 a0_2 a0_3 a0_4 a0_5 a0_6 a1 a2_0 a2_1 a2_2 a3_0 a3_1 a3_2 a4 = some r) :
    Calls Try.prog 9 #[.agg #[.int .i64 a0_0, .int .i64 a0_1, .int .i64 a0_2, .int .i64 a0_3, .int .i64 a0_4, .int .i64 a0_5, .int .i64 a0_6], .int .i64 a1, .agg #[.string a2_0, .int .i64 a2_1, .int .i64 a2_2], .agg #[.string a3_0, .string a3_1, .bool a3_2], .int .u64 a4] w fun e w' => e = .returned (.bool r) ∧ Below w.heap.size w w' := by
  have hu52 := Try.underlying52
  have hu59 := Try.underlying59
  have hu32 := Try.underlying32
  have HB := Aside0.mk (Below.refl w.heap.size w)
  have H : ((node_Inode.f a0_0 a0_1 a0_2 a0_3 a0_4 a0_5 a0_6).bind fun bt329 => (if bt329.2.2.2 = 0 then ((node_ParseInode.f bt329.1 bt329.2.1 bt329.2.2.1).bind fun bt334 => (if bt334.2.2.2.2.2.2.2 = true then (if (!(bt334.1 == a0_0) || (!(bt334.2.1 == a0_1) || (!(bt334.2.2.1 == a0_2) || (!(bt334.2.2.2.1 == a0_3) || (!(bt334.2.2.2.2.1 == a0_4) || (!(bt334.2.2.2.2.2.1 == a0_5) || (!(bt334.2.2.2.2.2.2.1 == a0_6)))))))) = true then (none) else (pumicelaw06_NodeBack.j0 k a1 a4 a2_0 a2_1 a2_2 a3_0 a3_1 a3_2)) else (none))) else (pumicelaw06_NodeBack.j0 k a1 a4 a2_0 a2_1 a2_2 a3_0 a3_1 a3_2))) = some r := h
  clear h
  replace H := Option.bind_eq_some_iff.mp H
  obtain ⟨⟨t329, t330, t331, t332⟩, A60, H⟩ := H
  replace H : (if t332 = 0 then ((node_ParseInode.f t329 t330 t331).bind fun bt334 => (if bt334.2.2.2.2.2.2.2 = true then (if (!(bt334.1 == a0_0) || (!(bt334.2.1 == a0_1) || (!(bt334.2.2.1 == a0_2) || (!(bt334.2.2.2.1 == a0_3) || (!(bt334.2.2.2.2.1 == a0_4) || (!(bt334.2.2.2.2.2.1 == a0_5) || (!(bt334.2.2.2.2.2.2.1 == a0_6)))))))) = true then (none) else (pumicelaw06_NodeBack.j0 k a1 a4 a2_0 a2_1 a2_2 a3_0 a3_1 a3_2)) else (none))) else (pumicelaw06_NodeBack.j0 k a1 a4 a2_0 a2_1 a2_2 a3_0 a3_1 a3_2)) = some r := H
  have A6 := Aside0.mk A60
  clear A60
  have HC7 := Aside0.mk H
  clear H
  go_enter Try.func9, Try.ntmps9
  go_upto_if 38 with (first | ((with_reducible refine gate_dst (N := 5) rfl ?_); (try (refine gate_guard (by rfl) ?_; dsimp only)); refine box_event ?hg (N := 5) ?hd (cs := #[.int .i64 a0_0, .int .i64 a0_1, .int .i64 a0_2, .int .i64 a0_3, .int .i64 a0_4, .int .i64 a0_5, .int .i64 a0_6]) (t := 52) ?hr ?_; (case hd => rfl); (case hg => rfl); (case hr => first | (go_simp; done) | (go_simp; rfl)); intro gb326 hg w8 hbox hb; have n0_ := Aside0.mk (below_step (by repeat (first | (with_reducible first | exact HB.out | apply below_alloc | apply pw_below_drewN | apply below_drew1) | exact HB.out)) hb); have n1_ := Aside0.mk (hbox); have n2_ := Aside0.mk ((by rw [hg]; exact (below_size (by repeat (first | (with_reducible first | exact HB.out | apply below_alloc | apply pw_below_drewN | apply below_drew1) | exact HB.out))) : w.heap.size ≤ gb326)); have n3_ := Aside0.mk ((by rw [hg]; exact (below_size (by repeat (first | (with_reducible first | exact HB.out | apply below_alloc | apply pw_below_drewN | apply below_drew1) | exact HB.out))) : w.heap.size ≤ gb326)); clear HB; have HB := n0_; have BK326 := n1_; have GW326 := n2_; have GE326 := n3_; clear n0_ n1_ n2_ n3_; clear hb hbox hg) | ((with_reducible refine gate_dst (N := 7) rfl ?_); (try (refine gate_guard (by rfl) ?_; dsimp only)); refine box_event ?hg (N := 7) ?hd (cs := #[.string a2_0, .int .i64 a2_1, .int .i64 a2_2]) (t := 59) ?hr ?_; (case hd => rfl); (case hg => rfl); (case hr => first | (go_simp; done) | (go_simp; rfl)); intro gb327 hg w9 hbox hb; have n0_ := Aside0.mk (blk_below (g := gb326) (o := .cells #[.int .i64 a0_0, .int .i64 a0_1, .int .i64 a0_2, .int .i64 a0_3, .int .i64 a0_4, .int .i64 a0_5, .int .i64 a0_6] 52 (0, 0)) (by (with_reducible repeat (first | refine blk_drewN ?_ _ | refine blk_drew ?_ | refine blk_alloc ?_ _)); exact BK326.out) hb); have n1_ := Aside0.mk (below_step (by repeat (first | (with_reducible first | exact HB.out | apply below_alloc | apply pw_below_drewN | apply below_drew1 | refine below_set ?_ GE326.out) | exact HB.out)) hb); have n2_ := Aside0.mk (hbox); have n3_ := Aside0.mk ((by rw [hg]; exact (below_size (by repeat (first | (with_reducible first | exact HB.out | apply below_alloc | apply pw_below_drewN | apply below_drew1 | refine below_set ?_ GE326.out) | exact HB.out))) : w.heap.size ≤ gb327)); have n4_ := Aside0.mk ((by rw [hg]; exact (below_size (by repeat (first | (with_reducible first | exact HB.out | apply below_alloc | apply pw_below_drewN | apply below_drew1 | refine below_set ?_ GE326.out) | exact HB.out))) : w.heap.size ≤ gb327)); have n5_ := Aside0.mk ((by rw [hg]; exact Nat.ne_of_lt (blk_lt (g := gb326) (o := .cells #[.int .i64 a0_0, .int .i64 a0_1, .int .i64 a0_2, .int .i64 a0_3, .int .i64 a0_4, .int .i64 a0_5, .int .i64 a0_6] 52 (0, 0)) (by (with_reducible repeat (first | refine blk_drewN ?_ _ | refine blk_drew ?_ | refine blk_alloc ?_ _)); exact BK326.out)) : gb326 ≠ gb327)); have n6_ := Aside0.mk ((by rw [hg]; exact Nat.ne_of_gt (blk_lt (g := gb326) (o := .cells #[.int .i64 a0_0, .int .i64 a0_1, .int .i64 a0_2, .int .i64 a0_3, .int .i64 a0_4, .int .i64 a0_5, .int .i64 a0_6] 52 (0, 0)) (by (with_reducible repeat (first | refine blk_drewN ?_ _ | refine blk_drew ?_ | refine blk_alloc ?_ _)); exact BK326.out)) : gb327 ≠ gb326)); clear BK326; clear HB; have BK326 := n0_; have HB := n1_; have BK327 := n2_; have GW327 := n3_; have GE327 := n4_; have NB326_327 := n5_; have NB327_326 := n6_; clear n0_ n1_ n2_ n3_ n4_ n5_ n6_; clear hb hbox hg) | ((with_reducible refine gate_dst (N := 8) rfl ?_); (try (refine gate_guard (by rfl) ?_; dsimp only)); refine box_event ?hg (N := 8) ?hd (cs := #[.string a3_0, .string a3_1, .bool a3_2]) (t := 32) ?hr ?_; (case hd => rfl); (case hg => rfl); (case hr => first | (go_simp; done) | (go_simp; rfl)); intro gb328 hg w10 hbox hb; have n0_ := Aside0.mk (blk_below (g := gb326) (o := .cells #[.int .i64 a0_0, .int .i64 a0_1, .int .i64 a0_2, .int .i64 a0_3, .int .i64 a0_4, .int .i64 a0_5, .int .i64 a0_6] 52 (0, 0)) (by (with_reducible repeat (first | refine blk_drewN ?_ _ | refine blk_drew ?_ | refine blk_alloc ?_ _)); exact BK326.out) hb); have n1_ := Aside0.mk (blk_below (g := gb327) (o := .cells #[.string a2_0, .int .i64 a2_1, .int .i64 a2_2] 59 (0, 0)) (by (with_reducible repeat (first | refine blk_drewN ?_ _ | refine blk_drew ?_ | refine blk_alloc ?_ _)); exact BK327.out) hb); have n2_ := Aside0.mk (below_step (by repeat (first | (with_reducible first | exact HB.out | apply below_alloc | apply pw_below_drewN | apply below_drew1 | refine below_set ?_ GE326.out | refine below_set ?_ GE327.out) | exact HB.out)) hb); have n3_ := Aside0.mk (hbox); have n4_ := Aside0.mk ((by rw [hg]; exact (below_size (by repeat (first | (with_reducible first | exact HB.out | apply below_alloc | apply pw_below_drewN | apply below_drew1 | refine below_set ?_ GE326.out | refine below_set ?_ GE327.out) | exact HB.out))) : w.heap.size ≤ gb328)); have n5_ := Aside0.mk ((by rw [hg]; exact (below_size (by repeat (first | (with_reducible first | exact HB.out | apply below_alloc | apply pw_below_drewN | apply below_drew1 | refine below_set ?_ GE326.out | refine below_set ?_ GE327.out) | exact HB.out))) : w.heap.size ≤ gb328)); have n6_ := Aside0.mk ((by rw [hg]; exact Nat.ne_of_lt (blk_lt (g := gb326) (o := .cells #[.int .i64 a0_0, .int .i64 a0_1, .int .i64 a0_2, .int .i64 a0_3, .int .i64 a0_4, .int .i64 a0_5, .int .i64 a0_6] 52 (0, 0)) (by (with_reducible repeat (first | refine blk_drewN ?_ _ | refine blk_drew ?_ | refine blk_alloc ?_ _)); exact BK326.out)) : gb326 ≠ gb328)); have n7_ := Aside0.mk ((by rw [hg]; exact Nat.ne_of_gt (blk_lt (g := gb326) (o := .cells #[.int .i64 a0_0, .int .i64 a0_1, .int .i64 a0_2, .int .i64 a0_3, .int .i64 a0_4, .int .i64 a0_5, .int .i64 a0_6] 52 (0, 0)) (by (with_reducible repeat (first | refine blk_drewN ?_ _ | refine blk_drew ?_ | refine blk_alloc ?_ _)); exact BK326.out)) : gb328 ≠ gb326)); have n8_ := Aside0.mk ((by rw [hg]; exact Nat.ne_of_lt (blk_lt (g := gb327) (o := .cells #[.string a2_0, .int .i64 a2_1, .int .i64 a2_2] 59 (0, 0)) (by (with_reducible repeat (first | refine blk_drewN ?_ _ | refine blk_drew ?_ | refine blk_alloc ?_ _)); exact BK327.out)) : gb327 ≠ gb328)); have n9_ := Aside0.mk ((by rw [hg]; exact Nat.ne_of_gt (blk_lt (g := gb327) (o := .cells #[.string a2_0, .int .i64 a2_1, .int .i64 a2_2] 59 (0, 0)) (by (with_reducible repeat (first | refine blk_drewN ?_ _ | refine blk_drew ?_ | refine blk_alloc ?_ _)); exact BK327.out)) : gb328 ≠ gb327)); clear BK326; clear BK327; clear HB; have BK326 := n0_; have BK327 := n1_; have HB := n2_; have BK328 := n3_; have GW328 := n4_; have GE328 := n5_; have NB326_328 := n6_; have NB328_326 := n7_; have NB327_328 := n8_; have NB328_327 := n9_; clear n0_ n1_ n2_ n3_ n4_ n5_ n6_ n7_ n8_ n9_; clear hb hbox hg; have hnb11 := NB326_327.out; have hnc11 := NB327_326.out; have hnb12 := NB326_328.out; have hnc12 := NB328_326.out; have hcz13_0 : w10.cell? ⟨gb326, 0, none⟩ = some (.int .i64 a0_0) := (blk_cell BK326.out 0).trans rfl; have hcz13_1 : w10.cell? ⟨gb326, 1, none⟩ = some (.int .i64 a0_1) := (blk_cell BK326.out 1).trans rfl; have hcz13_2 : w10.cell? ⟨gb326, 2, none⟩ = some (.int .i64 a0_2) := (blk_cell BK326.out 2).trans rfl; have hcz13_3 : w10.cell? ⟨gb326, 3, none⟩ = some (.int .i64 a0_3) := (blk_cell BK326.out 3).trans rfl; have hcz13_4 : w10.cell? ⟨gb326, 4, none⟩ = some (.int .i64 a0_4) := (blk_cell BK326.out 4).trans rfl; have hcz13_5 : w10.cell? ⟨gb326, 5, none⟩ = some (.int .i64 a0_5) := (blk_cell BK326.out 5).trans rfl; have hcz13_6 : w10.cell? ⟨gb326, 6, none⟩ = some (.int .i64 a0_6) := (blk_cell BK326.out 6).trans rfl; have hfz13_0 := blk_frozen BK326.out 0; have hfz13_1 := blk_frozen BK326.out 1; have hfz13_2 := blk_frozen BK326.out 2; have hfz13_3 := blk_frozen BK326.out 3; have hfz13_4 := blk_frozen BK326.out 4; have hfz13_5 := blk_frozen BK326.out 5; have hfz13_6 := blk_frozen BK326.out 6) | ((with_reducible refine gate_callee (f := 32) rfl ?_); refine goesL_ (some 34) rfl rfl Try.func32 (by kernel_rfl) rfl #[.agg #[.int .i64 a0_0, .int .i64 a0_1, .int .i64 a0_2, .int .i64 a0_3, .int .i64 a0_4, .int .i64 a0_5, .int .i64 a0_6]] rfl (by (try simp only [List.map_toArray, List.map_cons, List.map_nil]); first | done | rfl | (simp only [List.length_drop, List.length_take]; rfl)) ?_; (with_reducible refine (node_Inode.calls a0_0 a0_1 a0_2 a0_3 a0_4 a0_5 a0_6 t329 t330 t331 t332 _ A6.out).mono ?_); rintro e w14 ⟨rfl, hb⟩; refine ⟨_, rfl, ?_⟩; have n0_ := Aside0.mk (blk_below (g := gb326) (o := .cells #[.int .i64 a0_0, .int .i64 a0_1, .int .i64 a0_2, .int .i64 a0_3, .int .i64 a0_4, .int .i64 a0_5, .int .i64 a0_6] 52 (0, 0)) (by (with_reducible repeat (first | refine blk_drewN ?_ _ | refine blk_drew ?_ | refine blk_alloc ?_ _)); exact BK326.out) hb); have n1_ := Aside0.mk (blk_below (g := gb327) (o := .cells #[.string a2_0, .int .i64 a2_1, .int .i64 a2_2] 59 (0, 0)) (by (with_reducible repeat (first | refine blk_drewN ?_ _ | refine blk_drew ?_ | refine blk_alloc ?_ _)); exact BK327.out) hb); have n2_ := Aside0.mk (blk_below (g := gb328) (o := .cells #[.string a3_0, .string a3_1, .bool a3_2] 32 (0, 0)) (by (with_reducible repeat (first | refine blk_drewN ?_ _ | refine blk_drew ?_ | refine blk_alloc ?_ _)); exact BK328.out) hb); have n3_ := Aside0.mk (below_step (by repeat (first | (with_reducible first | exact HB.out | apply below_alloc | apply pw_below_drewN | apply below_drew1 | refine below_set ?_ GE326.out | refine below_set ?_ GE327.out | refine below_set ?_ GE328.out) | exact HB.out)) hb); clear BK326; clear BK327; clear BK328; clear HB; have BK326 := n0_; have BK327 := n1_; have BK328 := n2_; have HB := n3_; clear n0_ n1_ n2_ n3_; (try clear hb); (try clear hb2); (try clear hk); (try clear hi)) | ((with_reducible refine gate_dst (N := 11) rfl ?_); (try (refine gate_guard (by rfl) ?_; dsimp only)); refine box_event ?hg (N := 11) ?hd (cs := #[.string (⟨#[]⟩ : ByteArray), .string (⟨#[]⟩ : ByteArray), .bool false]) (t := 32) ?hr ?_; (case hd => rfl); (case hg => rfl); (case hr => first | (go_simp; done) | (go_simp; rfl)); intro gb333 hg w15 hbox hb; have n0_ := Aside0.mk (blk_below (g := gb326) (o := .cells #[.int .i64 a0_0, .int .i64 a0_1, .int .i64 a0_2, .int .i64 a0_3, .int .i64 a0_4, .int .i64 a0_5, .int .i64 a0_6] 52 (0, 0)) (by (with_reducible repeat (first | refine blk_drewN ?_ _ | refine blk_drew ?_ | refine blk_alloc ?_ _)); exact BK326.out) hb); have n1_ := Aside0.mk (blk_below (g := gb327) (o := .cells #[.string a2_0, .int .i64 a2_1, .int .i64 a2_2] 59 (0, 0)) (by (with_reducible repeat (first | refine blk_drewN ?_ _ | refine blk_drew ?_ | refine blk_alloc ?_ _)); exact BK327.out) hb); have n2_ := Aside0.mk (blk_below (g := gb328) (o := .cells #[.string a3_0, .string a3_1, .bool a3_2] 32 (0, 0)) (by (with_reducible repeat (first | refine blk_drewN ?_ _ | refine blk_drew ?_ | refine blk_alloc ?_ _)); exact BK328.out) hb); have n3_ := Aside0.mk (below_step (by repeat (first | (with_reducible first | exact HB.out | apply below_alloc | apply pw_below_drewN | apply below_drew1 | refine below_set ?_ GE326.out | refine below_set ?_ GE327.out | refine below_set ?_ GE328.out) | exact HB.out)) hb); have n4_ := Aside0.mk (hbox); have n5_ := Aside0.mk ((by rw [hg]; exact (below_size (by repeat (first | (with_reducible first | exact HB.out | apply below_alloc | apply pw_below_drewN | apply below_drew1 | refine below_set ?_ GE326.out | refine below_set ?_ GE327.out | refine below_set ?_ GE328.out) | exact HB.out))) : w.heap.size ≤ gb333)); have n6_ := Aside0.mk ((by rw [hg]; exact (below_size (by repeat (first | (with_reducible first | exact HB.out | apply below_alloc | apply pw_below_drewN | apply below_drew1 | refine below_set ?_ GE326.out | refine below_set ?_ GE327.out | refine below_set ?_ GE328.out) | exact HB.out))) : w.heap.size ≤ gb333)); have n7_ := Aside0.mk ((by rw [hg]; exact Nat.ne_of_lt (blk_lt (g := gb326) (o := .cells #[.int .i64 a0_0, .int .i64 a0_1, .int .i64 a0_2, .int .i64 a0_3, .int .i64 a0_4, .int .i64 a0_5, .int .i64 a0_6] 52 (0, 0)) (by (with_reducible repeat (first | refine blk_drewN ?_ _ | refine blk_drew ?_ | refine blk_alloc ?_ _)); exact BK326.out)) : gb326 ≠ gb333)); have n8_ := Aside0.mk ((by rw [hg]; exact Nat.ne_of_gt (blk_lt (g := gb326) (o := .cells #[.int .i64 a0_0, .int .i64 a0_1, .int .i64 a0_2, .int .i64 a0_3, .int .i64 a0_4, .int .i64 a0_5, .int .i64 a0_6] 52 (0, 0)) (by (with_reducible repeat (first | refine blk_drewN ?_ _ | refine blk_drew ?_ | refine blk_alloc ?_ _)); exact BK326.out)) : gb333 ≠ gb326)); have n9_ := Aside0.mk ((by rw [hg]; exact Nat.ne_of_lt (blk_lt (g := gb327) (o := .cells #[.string a2_0, .int .i64 a2_1, .int .i64 a2_2] 59 (0, 0)) (by (with_reducible repeat (first | refine blk_drewN ?_ _ | refine blk_drew ?_ | refine blk_alloc ?_ _)); exact BK327.out)) : gb327 ≠ gb333)); have n10_ := Aside0.mk ((by rw [hg]; exact Nat.ne_of_gt (blk_lt (g := gb327) (o := .cells #[.string a2_0, .int .i64 a2_1, .int .i64 a2_2] 59 (0, 0)) (by (with_reducible repeat (first | refine blk_drewN ?_ _ | refine blk_drew ?_ | refine blk_alloc ?_ _)); exact BK327.out)) : gb333 ≠ gb327)); have n11_ := Aside0.mk ((by rw [hg]; exact Nat.ne_of_lt (blk_lt (g := gb328) (o := .cells #[.string a3_0, .string a3_1, .bool a3_2] 32 (0, 0)) (by (with_reducible repeat (first | refine blk_drewN ?_ _ | refine blk_drew ?_ | refine blk_alloc ?_ _)); exact BK328.out)) : gb328 ≠ gb333)); have n12_ := Aside0.mk ((by rw [hg]; exact Nat.ne_of_gt (blk_lt (g := gb328) (o := .cells #[.string a3_0, .string a3_1, .bool a3_2] 32 (0, 0)) (by (with_reducible repeat (first | refine blk_drewN ?_ _ | refine blk_drew ?_ | refine blk_alloc ?_ _)); exact BK328.out)) : gb333 ≠ gb328)); clear BK326; clear BK327; clear BK328; clear HB; have BK326 := n0_; have BK327 := n1_; have BK328 := n2_; have HB := n3_; have BK333 := n4_; have GW333 := n5_; have GE333 := n6_; have NB326_333 := n7_; have NB333_326 := n8_; have NB327_333 := n9_; have NB333_327 := n10_; have NB328_333 := n11_; have NB333_328 := n12_; clear n0_ n1_ n2_ n3_ n4_ n5_ n6_ n7_ n8_ n9_ n10_ n11_ n12_; clear hb hbox hg; have hnb16 := NB333_326.out; have hnc16 := NB326_333.out; have hnb17 := NB333_327.out; have hnc17 := NB327_333.out; have hnb18 := NB333_328.out; have hnc18 := NB328_333.out; have hcz19_0 : w15.cell? ⟨gb333, 0, none⟩ = some (.string (⟨#[]⟩ : ByteArray)) := (blk_cell BK333.out 0).trans rfl; have hcz19_1 : w15.cell? ⟨gb333, 1, none⟩ = some (.string (⟨#[]⟩ : ByteArray)) := (blk_cell BK333.out 1).trans rfl; have hcz19_2 : w15.cell? ⟨gb333, 2, none⟩ = some (.bool false) := (blk_cell BK333.out 2).trans rfl; have hfz19_0 := blk_frozen BK333.out 0; have hfz19_1 := blk_frozen BK333.out 1; have hfz19_2 := blk_frozen BK333.out 2))
  (try simp only [Act.put, List.setIfInBounds_toArray, List.set_cons_zero, List.set_cons_succ])
  go_cut [] (fun wc => ∃ (kq : Nat), Aside0 (pumicelaw06_NodeBack.j0 kq a1 a4 a2_0 a2_1 a2_2 a3_0 a3_1 a3_2 = some r) ∧ Aside0 (kq ≤ k) ∧ Aside0 (wc.heap[gb326]? = some (.cells #[.int .i64 a0_0, .int .i64 a0_1, .int .i64 a0_2, .int .i64 a0_3, .int .i64 a0_4, .int .i64 a0_5, .int .i64 a0_6] 52 (0, 0))) ∧ Aside0 (wc.heap[gb327]? = some (.cells #[.string a2_0, .int .i64 a2_1, .int .i64 a2_2] 59 (0, 0))) ∧ Aside0 (wc.heap[gb328]? = some (.cells #[.string a3_0, .string a3_1, .bool a3_2] 32 (0, 0))) ∧ Aside0 (wc.heap[gb333]? = some (.cells #[.string t329, .string t330, .bool t331] 32 (0, 0))) ∧ Aside0 (Below w.heap.size w wc))
  case first =>
    have H := HC7.out
    clear HC7
    by_cases c20 : t332 = 0
    · rw [if_pos c20] at H
      have c20b0 : (t332 == 0) = true := beq_iff_eq.mpr c20
      have c20b1 : (t332 != 0) = false := bne_eq_false_iff_eq.mpr c20
      clear c20
      (first | rw [c20b0] | (simp only [i64_w, i32_w]; rw [c20b0]) | skip)
      replace H := Option.bind_eq_some_iff.mp H
      obtain ⟨⟨t334, t335, t336, t337, t338, t339, t340, t341⟩, A210, H⟩ := H
      replace H : (if t341 = true then (if (!(t334 == a0_0) || (!(t335 == a0_1) || (!(t336 == a0_2) || (!(t337 == a0_3) || (!(t338 == a0_4) || (!(t339 == a0_5) || (!(t340 == a0_6)))))))) = true then (none) else (pumicelaw06_NodeBack.j0 k a1 a4 a2_0 a2_1 a2_2 a3_0 a3_1 a3_2)) else (none)) = some r := H
      have A21 := Aside0.mk A210
      clear A210
      by_cases c22 : t341 = true
      · subst c22
        have H1 : (if (!(t334 == a0_0) || (!(t335 == a0_1) || (!(t336 == a0_2) || (!(t337 == a0_3) || (!(t338 == a0_4) || (!(t339 == a0_5) || (!(t340 == a0_6)))))))) = true then (none) else (pumicelaw06_NodeBack.j0 k a1 a4 a2_0 a2_1 a2_2 a3_0 a3_1 a3_2)) = some r := by rw [if_pos rfl] at H; exact H
        clear H
        have H := H1
        clear H1
        by_cases c23 : (!(t334 == a0_0) || (!(t335 == a0_1) || (!(t336 == a0_2) || (!(t337 == a0_3) || (!(t338 == a0_4) || (!(t339 == a0_5) || (!(t340 == a0_6)))))))) = true
        · rw [if_pos c23] at H
          exact absurd H (by simp)
        · rw [if_neg c23] at H
          have c23b0 : (!(t334 == a0_0) || (!(t335 == a0_1) || (!(t336 == a0_2) || (!(t337 == a0_3) || (!(t338 == a0_4) || (!(t339 == a0_5) || (!(t340 == a0_6)))))))) = false := by simpa using c23
          clear c23
          have H' := Aside0.mk H
          clear H
          have hnb24 := NB333_326.out
          have hnc24 := NB326_333.out
          have hnb25 := NB333_327.out
          have hnc25 := NB327_333.out
          have hnb26 := NB333_328.out
          have hnc26 := NB328_333.out
          have hcz27_0 : w15.cell? ⟨gb333, 0, none⟩ = some (.string (⟨#[]⟩ : ByteArray)) := (blk_cell BK333.out 0).trans rfl
          have hcz27_1 : w15.cell? ⟨gb333, 1, none⟩ = some (.string (⟨#[]⟩ : ByteArray)) := (blk_cell BK333.out 1).trans rfl
          have hcz27_2 : w15.cell? ⟨gb333, 2, none⟩ = some (.bool false) := (blk_cell BK333.out 2).trans rfl
          have hfz27_0 := blk_frozen BK333.out 0
          have hfz27_1 := blk_frozen BK333.out 1
          have hfz27_2 := blk_frozen BK333.out 2
          go_wp2_with (first | ((with_reducible refine gate_callee (f := 34) rfl ?_); refine goesL_ (some 41) rfl rfl Try.func34 (by kernel_rfl) rfl #[.agg #[.string t329, .string t330, .bool t331]] rfl (by (try simp only [List.map_toArray, List.map_cons, List.map_nil]); first | done | rfl | (simp only [List.length_drop, List.length_take]; rfl)) ?_; (with_reducible refine (node_ParseInode.calls t329 t330 t331 t334 t335 t336 t337 t338 t339 t340 true _ A21.out).mono ?_); rintro e w28 ⟨rfl, hb⟩; refine ⟨_, rfl, ?_⟩; have n0_ := Aside0.mk (blk_below (g := gb326) (o := .cells #[.int .i64 a0_0, .int .i64 a0_1, .int .i64 a0_2, .int .i64 a0_3, .int .i64 a0_4, .int .i64 a0_5, .int .i64 a0_6] 52 (0, 0)) (by (with_reducible repeat (first | refine blk_drewN ?_ _ | refine blk_drew ?_ | refine blk_alloc ?_ _)); refine blk_far ?_ NB326_333.out _; (with_reducible repeat (first | refine blk_drewN ?_ _ | refine blk_drew ?_ | refine blk_alloc ?_ _)); refine blk_far ?_ NB326_333.out _; (with_reducible repeat (first | refine blk_drewN ?_ _ | refine blk_drew ?_ | refine blk_alloc ?_ _)); refine blk_far ?_ NB326_333.out _; (with_reducible repeat (first | refine blk_drewN ?_ _ | refine blk_drew ?_ | refine blk_alloc ?_ _)); exact BK326.out) hb); have n1_ := Aside0.mk (blk_below (g := gb327) (o := .cells #[.string a2_0, .int .i64 a2_1, .int .i64 a2_2] 59 (0, 0)) (by (with_reducible repeat (first | refine blk_drewN ?_ _ | refine blk_drew ?_ | refine blk_alloc ?_ _)); refine blk_far ?_ NB327_333.out _; (with_reducible repeat (first | refine blk_drewN ?_ _ | refine blk_drew ?_ | refine blk_alloc ?_ _)); refine blk_far ?_ NB327_333.out _; (with_reducible repeat (first | refine blk_drewN ?_ _ | refine blk_drew ?_ | refine blk_alloc ?_ _)); refine blk_far ?_ NB327_333.out _; (with_reducible repeat (first | refine blk_drewN ?_ _ | refine blk_drew ?_ | refine blk_alloc ?_ _)); exact BK327.out) hb); have n2_ := Aside0.mk (blk_below (g := gb328) (o := .cells #[.string a3_0, .string a3_1, .bool a3_2] 32 (0, 0)) (by (with_reducible repeat (first | refine blk_drewN ?_ _ | refine blk_drew ?_ | refine blk_alloc ?_ _)); refine blk_far ?_ NB328_333.out _; (with_reducible repeat (first | refine blk_drewN ?_ _ | refine blk_drew ?_ | refine blk_alloc ?_ _)); refine blk_far ?_ NB328_333.out _; (with_reducible repeat (first | refine blk_drewN ?_ _ | refine blk_drew ?_ | refine blk_alloc ?_ _)); refine blk_far ?_ NB328_333.out _; (with_reducible repeat (first | refine blk_drewN ?_ _ | refine blk_drew ?_ | refine blk_alloc ?_ _)); exact BK328.out) hb); have n3_ := Aside0.mk (blk_below (g := gb333) (o := .cells #[.string t329, .string t330, .bool t331] 32 (0, 0)) (by (with_reducible repeat (first | refine blk_drewN ?_ _ | refine blk_drew ?_ | refine blk_alloc ?_ _)); refine blk_put (cs := #[.string t329, .string t330, .bool false]) ?_ 2 _ rfl; (with_reducible repeat (first | refine blk_drewN ?_ _ | refine blk_drew ?_ | refine blk_alloc ?_ _)); refine blk_put (cs := #[.string t329, .string (⟨#[]⟩ : ByteArray), .bool false]) ?_ 1 _ rfl; (with_reducible repeat (first | refine blk_drewN ?_ _ | refine blk_drew ?_ | refine blk_alloc ?_ _)); refine blk_put (cs := #[.string (⟨#[]⟩ : ByteArray), .string (⟨#[]⟩ : ByteArray), .bool false]) ?_ 0 _ rfl; (with_reducible repeat (first | refine blk_drewN ?_ _ | refine blk_drew ?_ | refine blk_alloc ?_ _)); exact BK333.out) hb); have n4_ := Aside0.mk (below_step (by repeat (first | (with_reducible first | exact HB.out | apply below_alloc | apply pw_below_drewN | apply below_drew1 | refine below_set ?_ GE326.out | refine below_set ?_ GE327.out | refine below_set ?_ GE328.out | refine below_set ?_ GE333.out) | exact HB.out)) hb); clear BK326; clear BK327; clear BK328; clear BK333; clear HB; have BK326 := n0_; have BK327 := n1_; have BK328 := n2_; have BK333 := n3_; have HB := n4_; clear n0_ n1_ n2_ n3_ n4_; (try clear hb); (try clear hb2); (try clear hk); (try clear hi)) | ((with_reducible refine gate_dst (N := 13) rfl ?_); (try (refine gate_guard (by rfl) ?_; dsimp only)); refine box_event ?hg (N := 13) ?hd (cs := #[.int .i64 0, .int .i64 0, .int .i64 0, .int .i64 0, .int .i64 0, .int .i64 0, .int .i64 0]) (t := 52) ?hr ?_; (case hd => rfl); (case hg => rfl); (case hr => first | (go_simp; done) | (go_simp; rfl)); intro gb342 hg w29 hbox hb; have n0_ := Aside0.mk (blk_below (g := gb326) (o := .cells #[.int .i64 a0_0, .int .i64 a0_1, .int .i64 a0_2, .int .i64 a0_3, .int .i64 a0_4, .int .i64 a0_5, .int .i64 a0_6] 52 (0, 0)) (by (with_reducible repeat (first | refine blk_drewN ?_ _ | refine blk_drew ?_ | refine blk_alloc ?_ _)); exact BK326.out) hb); have n1_ := Aside0.mk (blk_below (g := gb327) (o := .cells #[.string a2_0, .int .i64 a2_1, .int .i64 a2_2] 59 (0, 0)) (by (with_reducible repeat (first | refine blk_drewN ?_ _ | refine blk_drew ?_ | refine blk_alloc ?_ _)); exact BK327.out) hb); have n2_ := Aside0.mk (blk_below (g := gb328) (o := .cells #[.string a3_0, .string a3_1, .bool a3_2] 32 (0, 0)) (by (with_reducible repeat (first | refine blk_drewN ?_ _ | refine blk_drew ?_ | refine blk_alloc ?_ _)); exact BK328.out) hb); have n3_ := Aside0.mk (blk_below (g := gb333) (o := .cells #[.string t329, .string t330, .bool t331] 32 (0, 0)) (by (with_reducible repeat (first | refine blk_drewN ?_ _ | refine blk_drew ?_ | refine blk_alloc ?_ _)); exact BK333.out) hb); have n4_ := Aside0.mk (below_step (by repeat (first | (with_reducible first | exact HB.out | apply below_alloc | apply pw_below_drewN | apply below_drew1 | refine below_set ?_ GE326.out | refine below_set ?_ GE327.out | refine below_set ?_ GE328.out | refine below_set ?_ GE333.out) | exact HB.out)) hb); have n5_ := Aside0.mk (hbox); have n6_ := Aside0.mk ((by rw [hg]; exact (below_size (by repeat (first | (with_reducible first | exact HB.out | apply below_alloc | apply pw_below_drewN | apply below_drew1 | refine below_set ?_ GE326.out | refine below_set ?_ GE327.out | refine below_set ?_ GE328.out | refine below_set ?_ GE333.out) | exact HB.out))) : w.heap.size ≤ gb342)); have n7_ := Aside0.mk ((by rw [hg]; exact (below_size (by repeat (first | (with_reducible first | exact HB.out | apply below_alloc | apply pw_below_drewN | apply below_drew1 | refine below_set ?_ GE326.out | refine below_set ?_ GE327.out | refine below_set ?_ GE328.out | refine below_set ?_ GE333.out) | exact HB.out))) : w.heap.size ≤ gb342)); have n8_ := Aside0.mk ((by rw [hg]; exact Nat.ne_of_lt (blk_lt (g := gb326) (o := .cells #[.int .i64 a0_0, .int .i64 a0_1, .int .i64 a0_2, .int .i64 a0_3, .int .i64 a0_4, .int .i64 a0_5, .int .i64 a0_6] 52 (0, 0)) (by (with_reducible repeat (first | refine blk_drewN ?_ _ | refine blk_drew ?_ | refine blk_alloc ?_ _)); exact BK326.out)) : gb326 ≠ gb342)); have n9_ := Aside0.mk ((by rw [hg]; exact Nat.ne_of_gt (blk_lt (g := gb326) (o := .cells #[.int .i64 a0_0, .int .i64 a0_1, .int .i64 a0_2, .int .i64 a0_3, .int .i64 a0_4, .int .i64 a0_5, .int .i64 a0_6] 52 (0, 0)) (by (with_reducible repeat (first | refine blk_drewN ?_ _ | refine blk_drew ?_ | refine blk_alloc ?_ _)); exact BK326.out)) : gb342 ≠ gb326)); have n10_ := Aside0.mk ((by rw [hg]; exact Nat.ne_of_lt (blk_lt (g := gb327) (o := .cells #[.string a2_0, .int .i64 a2_1, .int .i64 a2_2] 59 (0, 0)) (by (with_reducible repeat (first | refine blk_drewN ?_ _ | refine blk_drew ?_ | refine blk_alloc ?_ _)); exact BK327.out)) : gb327 ≠ gb342)); have n11_ := Aside0.mk ((by rw [hg]; exact Nat.ne_of_gt (blk_lt (g := gb327) (o := .cells #[.string a2_0, .int .i64 a2_1, .int .i64 a2_2] 59 (0, 0)) (by (with_reducible repeat (first | refine blk_drewN ?_ _ | refine blk_drew ?_ | refine blk_alloc ?_ _)); exact BK327.out)) : gb342 ≠ gb327)); have n12_ := Aside0.mk ((by rw [hg]; exact Nat.ne_of_lt (blk_lt (g := gb328) (o := .cells #[.string a3_0, .string a3_1, .bool a3_2] 32 (0, 0)) (by (with_reducible repeat (first | refine blk_drewN ?_ _ | refine blk_drew ?_ | refine blk_alloc ?_ _)); exact BK328.out)) : gb328 ≠ gb342)); have n13_ := Aside0.mk ((by rw [hg]; exact Nat.ne_of_gt (blk_lt (g := gb328) (o := .cells #[.string a3_0, .string a3_1, .bool a3_2] 32 (0, 0)) (by (with_reducible repeat (first | refine blk_drewN ?_ _ | refine blk_drew ?_ | refine blk_alloc ?_ _)); exact BK328.out)) : gb342 ≠ gb328)); have n14_ := Aside0.mk ((by rw [hg]; exact Nat.ne_of_lt (blk_lt (g := gb333) (o := .cells #[.string t329, .string t330, .bool t331] 32 (0, 0)) (by (with_reducible repeat (first | refine blk_drewN ?_ _ | refine blk_drew ?_ | refine blk_alloc ?_ _)); exact BK333.out)) : gb333 ≠ gb342)); have n15_ := Aside0.mk ((by rw [hg]; exact Nat.ne_of_gt (blk_lt (g := gb333) (o := .cells #[.string t329, .string t330, .bool t331] 32 (0, 0)) (by (with_reducible repeat (first | refine blk_drewN ?_ _ | refine blk_drew ?_ | refine blk_alloc ?_ _)); exact BK333.out)) : gb342 ≠ gb333)); clear BK326; clear BK327; clear BK328; clear BK333; clear HB; have BK326 := n0_; have BK327 := n1_; have BK328 := n2_; have BK333 := n3_; have HB := n4_; have BK342 := n5_; have GW342 := n6_; have GE342 := n7_; have NB326_342 := n8_; have NB342_326 := n9_; have NB327_342 := n10_; have NB342_327 := n11_; have NB328_342 := n12_; have NB342_328 := n13_; have NB333_342 := n14_; have NB342_333 := n15_; clear n0_ n1_ n2_ n3_ n4_ n5_ n6_ n7_ n8_ n9_ n10_ n11_ n12_ n13_ n14_ n15_; clear hb hbox hg; have hnb30 := NB342_326.out; have hnc30 := NB326_342.out; have hnb31 := NB342_327.out; have hnc31 := NB327_342.out; have hnb32 := NB342_328.out; have hnc32 := NB328_342.out; have hnb33 := NB342_333.out; have hnc33 := NB333_342.out; have hcz34_0 : w29.cell? ⟨gb342, 0, none⟩ = some (.int .i64 0) := (blk_cell BK342.out 0).trans rfl; have hcz34_1 : w29.cell? ⟨gb342, 1, none⟩ = some (.int .i64 0) := (blk_cell BK342.out 1).trans rfl; have hcz34_2 : w29.cell? ⟨gb342, 2, none⟩ = some (.int .i64 0) := (blk_cell BK342.out 2).trans rfl; have hcz34_3 : w29.cell? ⟨gb342, 3, none⟩ = some (.int .i64 0) := (blk_cell BK342.out 3).trans rfl; have hcz34_4 : w29.cell? ⟨gb342, 4, none⟩ = some (.int .i64 0) := (blk_cell BK342.out 4).trans rfl; have hcz34_5 : w29.cell? ⟨gb342, 5, none⟩ = some (.int .i64 0) := (blk_cell BK342.out 5).trans rfl; have hcz34_6 : w29.cell? ⟨gb342, 6, none⟩ = some (.int .i64 0) := (blk_cell BK342.out 6).trans rfl; have hfz34_0 := blk_frozen BK342.out 0; have hfz34_1 := blk_frozen BK342.out 1; have hfz34_2 := blk_frozen BK342.out 2; have hfz34_3 := blk_frozen BK342.out 3; have hfz34_4 := blk_frozen BK342.out 4; have hfz34_5 := blk_frozen BK342.out 5; have hfz34_6 := blk_frozen BK342.out 6; have hnb35 := NB326_327.out; have hnc35 := NB327_326.out; have hnb36 := NB326_328.out; have hnc36 := NB328_326.out; have hcz37_0 : w29.cell? ⟨gb326, 0, none⟩ = some (.int .i64 a0_0) := (blk_cell BK326.out 0).trans rfl; have hcz37_1 : w29.cell? ⟨gb326, 1, none⟩ = some (.int .i64 a0_1) := (blk_cell BK326.out 1).trans rfl; have hcz37_2 : w29.cell? ⟨gb326, 2, none⟩ = some (.int .i64 a0_2) := (blk_cell BK326.out 2).trans rfl; have hcz37_3 : w29.cell? ⟨gb326, 3, none⟩ = some (.int .i64 a0_3) := (blk_cell BK326.out 3).trans rfl; have hcz37_4 : w29.cell? ⟨gb326, 4, none⟩ = some (.int .i64 a0_4) := (blk_cell BK326.out 4).trans rfl; have hcz37_5 : w29.cell? ⟨gb326, 5, none⟩ = some (.int .i64 a0_5) := (blk_cell BK326.out 5).trans rfl; have hcz37_6 : w29.cell? ⟨gb326, 6, none⟩ = some (.int .i64 a0_6) := (blk_cell BK326.out 6).trans rfl; have hfz37_0 := blk_frozen BK326.out 0; have hfz37_1 := blk_frozen BK326.out 1; have hfz37_2 := blk_frozen BK326.out 2; have hfz37_3 := blk_frozen BK326.out 3; have hfz37_4 := blk_frozen BK326.out 4; have hfz37_5 := blk_frozen BK326.out 5; have hfz37_6 := blk_frozen BK326.out 6))
          go_meet
          case rel => exact ⟨_, H', ⟨by first | omega | exact Nat.le_refl _⟩, ⟨by (with_reducible repeat (first | refine blk_drewN ?_ _ | refine blk_drew ?_ | refine blk_alloc ?_ _)); refine blk_far ?_ NB326_342.out _; (with_reducible repeat (first | refine blk_drewN ?_ _ | refine blk_drew ?_ | refine blk_alloc ?_ _)); refine blk_far ?_ NB326_342.out _; (with_reducible repeat (first | refine blk_drewN ?_ _ | refine blk_drew ?_ | refine blk_alloc ?_ _)); refine blk_far ?_ NB326_342.out _; (with_reducible repeat (first | refine blk_drewN ?_ _ | refine blk_drew ?_ | refine blk_alloc ?_ _)); refine blk_far ?_ NB326_342.out _; (with_reducible repeat (first | refine blk_drewN ?_ _ | refine blk_drew ?_ | refine blk_alloc ?_ _)); refine blk_far ?_ NB326_342.out _; (with_reducible repeat (first | refine blk_drewN ?_ _ | refine blk_drew ?_ | refine blk_alloc ?_ _)); refine blk_far ?_ NB326_342.out _; (with_reducible repeat (first | refine blk_drewN ?_ _ | refine blk_drew ?_ | refine blk_alloc ?_ _)); refine blk_far ?_ NB326_342.out _; (with_reducible repeat (first | refine blk_drewN ?_ _ | refine blk_drew ?_ | refine blk_alloc ?_ _)); exact BK326.out⟩, ⟨by (with_reducible repeat (first | refine blk_drewN ?_ _ | refine blk_drew ?_ | refine blk_alloc ?_ _)); refine blk_far ?_ NB327_342.out _; (with_reducible repeat (first | refine blk_drewN ?_ _ | refine blk_drew ?_ | refine blk_alloc ?_ _)); refine blk_far ?_ NB327_342.out _; (with_reducible repeat (first | refine blk_drewN ?_ _ | refine blk_drew ?_ | refine blk_alloc ?_ _)); refine blk_far ?_ NB327_342.out _; (with_reducible repeat (first | refine blk_drewN ?_ _ | refine blk_drew ?_ | refine blk_alloc ?_ _)); refine blk_far ?_ NB327_342.out _; (with_reducible repeat (first | refine blk_drewN ?_ _ | refine blk_drew ?_ | refine blk_alloc ?_ _)); refine blk_far ?_ NB327_342.out _; (with_reducible repeat (first | refine blk_drewN ?_ _ | refine blk_drew ?_ | refine blk_alloc ?_ _)); refine blk_far ?_ NB327_342.out _; (with_reducible repeat (first | refine blk_drewN ?_ _ | refine blk_drew ?_ | refine blk_alloc ?_ _)); refine blk_far ?_ NB327_342.out _; (with_reducible repeat (first | refine blk_drewN ?_ _ | refine blk_drew ?_ | refine blk_alloc ?_ _)); exact BK327.out⟩, ⟨by (with_reducible repeat (first | refine blk_drewN ?_ _ | refine blk_drew ?_ | refine blk_alloc ?_ _)); refine blk_far ?_ NB328_342.out _; (with_reducible repeat (first | refine blk_drewN ?_ _ | refine blk_drew ?_ | refine blk_alloc ?_ _)); refine blk_far ?_ NB328_342.out _; (with_reducible repeat (first | refine blk_drewN ?_ _ | refine blk_drew ?_ | refine blk_alloc ?_ _)); refine blk_far ?_ NB328_342.out _; (with_reducible repeat (first | refine blk_drewN ?_ _ | refine blk_drew ?_ | refine blk_alloc ?_ _)); refine blk_far ?_ NB328_342.out _; (with_reducible repeat (first | refine blk_drewN ?_ _ | refine blk_drew ?_ | refine blk_alloc ?_ _)); refine blk_far ?_ NB328_342.out _; (with_reducible repeat (first | refine blk_drewN ?_ _ | refine blk_drew ?_ | refine blk_alloc ?_ _)); refine blk_far ?_ NB328_342.out _; (with_reducible repeat (first | refine blk_drewN ?_ _ | refine blk_drew ?_ | refine blk_alloc ?_ _)); refine blk_far ?_ NB328_342.out _; (with_reducible repeat (first | refine blk_drewN ?_ _ | refine blk_drew ?_ | refine blk_alloc ?_ _)); exact BK328.out⟩, ⟨by (with_reducible repeat (first | refine blk_drewN ?_ _ | refine blk_drew ?_ | refine blk_alloc ?_ _)); refine blk_far ?_ NB333_342.out _; (with_reducible repeat (first | refine blk_drewN ?_ _ | refine blk_drew ?_ | refine blk_alloc ?_ _)); refine blk_far ?_ NB333_342.out _; (with_reducible repeat (first | refine blk_drewN ?_ _ | refine blk_drew ?_ | refine blk_alloc ?_ _)); refine blk_far ?_ NB333_342.out _; (with_reducible repeat (first | refine blk_drewN ?_ _ | refine blk_drew ?_ | refine blk_alloc ?_ _)); refine blk_far ?_ NB333_342.out _; (with_reducible repeat (first | refine blk_drewN ?_ _ | refine blk_drew ?_ | refine blk_alloc ?_ _)); refine blk_far ?_ NB333_342.out _; (with_reducible repeat (first | refine blk_drewN ?_ _ | refine blk_drew ?_ | refine blk_alloc ?_ _)); refine blk_far ?_ NB333_342.out _; (with_reducible repeat (first | refine blk_drewN ?_ _ | refine blk_drew ?_ | refine blk_alloc ?_ _)); refine blk_far ?_ NB333_342.out _; (with_reducible repeat (first | refine blk_drewN ?_ _ | refine blk_drew ?_ | refine blk_alloc ?_ _)); exact BK333.out⟩, ⟨by repeat (first | (with_reducible first | exact HB.out | apply below_alloc | apply pw_below_drewN | apply below_drew1 | refine below_set ?_ GE326.out | refine below_set ?_ GE327.out | refine below_set ?_ GE328.out | refine below_set ?_ GE333.out | refine below_set ?_ GE342.out) | exact HB.out)⟩⟩
      · replace c22 := Bool.eq_false_iff.mpr c22
        subst c22
        have H1 : (none) = some r := by rw [if_neg (show ¬ (false = true) by decide)] at H; exact H
        clear H
        have H := H1
        clear H1
        exact absurd H (by simp)
    · rw [if_neg c20] at H
      have c20b0 : (t332 == 0) = false := beq_eq_false_iff_ne.mpr c20
      have c20b1 : (t332 != 0) = true := bne_iff_ne.mpr c20
      (first | rw [c20b0] | (simp only [i64_w, i32_w]; rw [c20b0]) | skip)
      have H' := Aside0.mk H
      clear H
      go_wp2
      go_meet
      case rel => exact ⟨_, H', ⟨by first | omega | exact Nat.le_refl _⟩, ⟨by (with_reducible repeat (first | refine blk_drewN ?_ _ | refine blk_drew ?_ | refine blk_alloc ?_ _)); refine blk_far ?_ NB326_333.out _; (with_reducible repeat (first | refine blk_drewN ?_ _ | refine blk_drew ?_ | refine blk_alloc ?_ _)); refine blk_far ?_ NB326_333.out _; (with_reducible repeat (first | refine blk_drewN ?_ _ | refine blk_drew ?_ | refine blk_alloc ?_ _)); refine blk_far ?_ NB326_333.out _; (with_reducible repeat (first | refine blk_drewN ?_ _ | refine blk_drew ?_ | refine blk_alloc ?_ _)); exact BK326.out⟩, ⟨by (with_reducible repeat (first | refine blk_drewN ?_ _ | refine blk_drew ?_ | refine blk_alloc ?_ _)); refine blk_far ?_ NB327_333.out _; (with_reducible repeat (first | refine blk_drewN ?_ _ | refine blk_drew ?_ | refine blk_alloc ?_ _)); refine blk_far ?_ NB327_333.out _; (with_reducible repeat (first | refine blk_drewN ?_ _ | refine blk_drew ?_ | refine blk_alloc ?_ _)); refine blk_far ?_ NB327_333.out _; (with_reducible repeat (first | refine blk_drewN ?_ _ | refine blk_drew ?_ | refine blk_alloc ?_ _)); exact BK327.out⟩, ⟨by (with_reducible repeat (first | refine blk_drewN ?_ _ | refine blk_drew ?_ | refine blk_alloc ?_ _)); refine blk_far ?_ NB328_333.out _; (with_reducible repeat (first | refine blk_drewN ?_ _ | refine blk_drew ?_ | refine blk_alloc ?_ _)); refine blk_far ?_ NB328_333.out _; (with_reducible repeat (first | refine blk_drewN ?_ _ | refine blk_drew ?_ | refine blk_alloc ?_ _)); refine blk_far ?_ NB328_333.out _; (with_reducible repeat (first | refine blk_drewN ?_ _ | refine blk_drew ?_ | refine blk_alloc ?_ _)); exact BK328.out⟩, ⟨by (with_reducible repeat (first | refine blk_drewN ?_ _ | refine blk_drew ?_ | refine blk_alloc ?_ _)); refine blk_put (cs := #[.string t329, .string t330, .bool false]) ?_ 2 _ rfl; (with_reducible repeat (first | refine blk_drewN ?_ _ | refine blk_drew ?_ | refine blk_alloc ?_ _)); refine blk_put (cs := #[.string t329, .string (⟨#[]⟩ : ByteArray), .bool false]) ?_ 1 _ rfl; (with_reducible repeat (first | refine blk_drewN ?_ _ | refine blk_drew ?_ | refine blk_alloc ?_ _)); refine blk_put (cs := #[.string (⟨#[]⟩ : ByteArray), .string (⟨#[]⟩ : ByteArray), .bool false]) ?_ 0 _ rfl; (with_reducible repeat (first | refine blk_drewN ?_ _ | refine blk_drew ?_ | refine blk_alloc ?_ _)); exact BK333.out⟩, ⟨by repeat (first | (with_reducible first | exact HB.out | apply below_alloc | apply pw_below_drewN | apply below_drew1 | refine below_set ?_ GE326.out | refine below_set ?_ GE327.out | refine below_set ?_ GE328.out | refine below_set ?_ GE333.out) | exact HB.out)⟩⟩
  case rest =>
    clear HC7
    try clear c1
    try clear c2
    try clear p2
    try clear c3
    try clear c9
    try clear c11
    try clear c12
    try clear c16
    try clear c17
    try clear c18
    try clear c20
    try clear c20b0
    try clear c20b1
    try clear c22
    try clear c23
    try clear c23b0
    try clear c24
    try clear c25
    try clear c26
    try clear c30
    try clear c31
    try clear c32
    try clear c33
    try clear c34
    try clear c35
    try clear c36
    try clear hcz13_0
    try clear hcz13_1
    try clear hcz13_2
    try clear hcz13_3
    try clear hcz13_4
    try clear hcz13_5
    try clear hcz13_6
    try clear hcz19_0
    try clear hcz19_1
    try clear hcz19_2
    try clear hcz27_0
    try clear hcz27_1
    try clear hcz27_2
    try clear hcz34_0
    try clear hcz34_1
    try clear hcz34_2
    try clear hcz34_3
    try clear hcz34_4
    try clear hcz34_5
    try clear hcz34_6
    try clear hcz37_0
    try clear hcz37_1
    try clear hcz37_2
    try clear hcz37_3
    try clear hcz37_4
    try clear hcz37_5
    try clear hcz37_6
    try clear hfz13_0
    try clear hfz13_1
    try clear hfz13_2
    try clear hfz13_3
    try clear hfz13_4
    try clear hfz13_5
    try clear hfz13_6
    try clear hfz19_0
    try clear hfz19_1
    try clear hfz19_2
    try clear hfz27_0
    try clear hfz27_1
    try clear hfz27_2
    try clear hfz34_0
    try clear hfz34_1
    try clear hfz34_2
    try clear hfz34_3
    try clear hfz34_4
    try clear hfz34_5
    try clear hfz34_6
    try clear hfz37_0
    try clear hfz37_1
    try clear hfz37_2
    try clear hfz37_3
    try clear hfz37_4
    try clear hfz37_5
    try clear hfz37_6
    obtain ⟨kq, HA, HJ6, BK326, BK327, BK328, BK333, HB⟩ := hcut
    cases kq with
    | zero => exact absurd HA.out (by simp [pumicelaw06_NodeBack.j0])
    | succ kj6 =>
      have H := HA.out
      clear HA
      simp only [pumicelaw06_NodeBack.j0] at H
      replace H := Option.bind_eq_some_iff.mp H
      obtain ⟨⟨t343, t344, t345, t346⟩, A380, H⟩ := H
      replace H : (if t346 = 0 then ((node_ParseEntry.f t343 t344 t345).bind fun bt348 => (if bt348.2.2.2.2 = true then (if bt348.1 = a1 then (if (!(bt348.2.1.toList == a2_0.toList) || (!(bt348.2.2.1 == a2_1) || (!(bt348.2.2.2.1 == a2_2)))) = true then (none) else (pumicelaw06_NodeBack.j1 kj6 a4 a3_0 a3_1 a3_2)) else (none)) else (none))) else (pumicelaw06_NodeBack.j1 kj6 a4 a3_0 a3_1 a3_2)) = some r := H
      have A38 := Aside0.mk A380
      clear A380
      have HC39 := Aside0.mk H
      clear H
      have hnb40 := NB327_326.out
      have hnc40 := NB326_327.out
      have hnb41 := NB327_328.out
      have hnc41 := NB328_327.out
      have hnb42 := NB327_333.out
      have hnc42 := NB333_327.out
      have hcz43_0 : wc.cell? ⟨gb327, 0, none⟩ = some (.string a2_0) := (blk_cell BK327.out 0).trans rfl
      have hcz43_1 : wc.cell? ⟨gb327, 1, none⟩ = some (.int .i64 a2_1) := (blk_cell BK327.out 1).trans rfl
      have hcz43_2 : wc.cell? ⟨gb327, 2, none⟩ = some (.int .i64 a2_2) := (blk_cell BK327.out 2).trans rfl
      have hfz43_0 := blk_frozen BK327.out 0
      have hfz43_1 := blk_frozen BK327.out 1
      have hfz43_2 := blk_frozen BK327.out 2
      go_upto_if 58 with (first | ((with_reducible refine gate_callee (f := 36) rfl ?_); refine goesL_ (some 54) rfl rfl Try.func36 (by kernel_rfl) rfl #[.int .i64 a1, .agg #[.string a2_0, .int .i64 a2_1, .int .i64 a2_2]] rfl (by (try simp only [List.map_toArray, List.map_cons, List.map_nil]); first | done | rfl | (simp only [List.length_drop, List.length_take]; rfl)) ?_; (with_reducible refine (node_Entry.calls a1 a2_0 a2_1 a2_2 t343 t344 t345 t346 _ A38.out).mono ?_); rintro e w44 ⟨rfl, hb⟩; refine ⟨_, rfl, ?_⟩; have n0_ := Aside0.mk (blk_below (g := gb326) (o := .cells #[.int .i64 a0_0, .int .i64 a0_1, .int .i64 a0_2, .int .i64 a0_3, .int .i64 a0_4, .int .i64 a0_5, .int .i64 a0_6] 52 (0, 0)) (by (with_reducible repeat (first | refine blk_drewN ?_ _ | refine blk_drew ?_ | refine blk_alloc ?_ _)); exact BK326.out) hb); have n1_ := Aside0.mk (blk_below (g := gb327) (o := .cells #[.string a2_0, .int .i64 a2_1, .int .i64 a2_2] 59 (0, 0)) (by (with_reducible repeat (first | refine blk_drewN ?_ _ | refine blk_drew ?_ | refine blk_alloc ?_ _)); exact BK327.out) hb); have n2_ := Aside0.mk (blk_below (g := gb328) (o := .cells #[.string a3_0, .string a3_1, .bool a3_2] 32 (0, 0)) (by (with_reducible repeat (first | refine blk_drewN ?_ _ | refine blk_drew ?_ | refine blk_alloc ?_ _)); exact BK328.out) hb); have n3_ := Aside0.mk (blk_below (g := gb333) (o := .cells #[.string t329, .string t330, .bool t331] 32 (0, 0)) (by (with_reducible repeat (first | refine blk_drewN ?_ _ | refine blk_drew ?_ | refine blk_alloc ?_ _)); exact BK333.out) hb); have n4_ := Aside0.mk (below_step (by repeat (first | (with_reducible first | exact HB.out | apply below_alloc | apply pw_below_drewN | apply below_drew1 | refine below_set ?_ GE326.out | refine below_set ?_ GE327.out | refine below_set ?_ GE328.out | refine below_set ?_ GE333.out) | exact HB.out)) hb); clear BK326; clear BK327; clear BK328; clear BK333; clear HB; have BK326 := n0_; have BK327 := n1_; have BK328 := n2_; have BK333 := n3_; have HB := n4_; clear n0_ n1_ n2_ n3_ n4_; (try clear hb); (try clear hb2); (try clear hk); (try clear hi)) | ((with_reducible refine gate_dst (N := 15) rfl ?_); (try (refine gate_guard (by rfl) ?_; dsimp only)); refine box_event ?hg (N := 15) ?hd (cs := #[.string (⟨#[]⟩ : ByteArray), .string (⟨#[]⟩ : ByteArray), .bool false]) (t := 32) ?hr ?_; (case hd => rfl); (case hg => rfl); (case hr => first | (go_simp; done) | (go_simp; rfl)); intro gb347 hg w45 hbox hb; have n0_ := Aside0.mk (blk_below (g := gb326) (o := .cells #[.int .i64 a0_0, .int .i64 a0_1, .int .i64 a0_2, .int .i64 a0_3, .int .i64 a0_4, .int .i64 a0_5, .int .i64 a0_6] 52 (0, 0)) (by (with_reducible repeat (first | refine blk_drewN ?_ _ | refine blk_drew ?_ | refine blk_alloc ?_ _)); exact BK326.out) hb); have n1_ := Aside0.mk (blk_below (g := gb327) (o := .cells #[.string a2_0, .int .i64 a2_1, .int .i64 a2_2] 59 (0, 0)) (by (with_reducible repeat (first | refine blk_drewN ?_ _ | refine blk_drew ?_ | refine blk_alloc ?_ _)); exact BK327.out) hb); have n2_ := Aside0.mk (blk_below (g := gb328) (o := .cells #[.string a3_0, .string a3_1, .bool a3_2] 32 (0, 0)) (by (with_reducible repeat (first | refine blk_drewN ?_ _ | refine blk_drew ?_ | refine blk_alloc ?_ _)); exact BK328.out) hb); have n3_ := Aside0.mk (blk_below (g := gb333) (o := .cells #[.string t329, .string t330, .bool t331] 32 (0, 0)) (by (with_reducible repeat (first | refine blk_drewN ?_ _ | refine blk_drew ?_ | refine blk_alloc ?_ _)); exact BK333.out) hb); have n4_ := Aside0.mk (below_step (by repeat (first | (with_reducible first | exact HB.out | apply below_alloc | apply pw_below_drewN | apply below_drew1 | refine below_set ?_ GE326.out | refine below_set ?_ GE327.out | refine below_set ?_ GE328.out | refine below_set ?_ GE333.out) | exact HB.out)) hb); have n5_ := Aside0.mk (hbox); have n6_ := Aside0.mk ((by rw [hg]; exact (below_size (by repeat (first | (with_reducible first | exact HB.out | apply below_alloc | apply pw_below_drewN | apply below_drew1 | refine below_set ?_ GE326.out | refine below_set ?_ GE327.out | refine below_set ?_ GE328.out | refine below_set ?_ GE333.out) | exact HB.out))) : w.heap.size ≤ gb347)); have n7_ := Aside0.mk ((by rw [hg]; exact (below_size (by repeat (first | (with_reducible first | exact HB.out | apply below_alloc | apply pw_below_drewN | apply below_drew1 | refine below_set ?_ GE326.out | refine below_set ?_ GE327.out | refine below_set ?_ GE328.out | refine below_set ?_ GE333.out) | exact HB.out))) : w.heap.size ≤ gb347)); have n8_ := Aside0.mk ((by rw [hg]; exact Nat.ne_of_lt (blk_lt (g := gb326) (o := .cells #[.int .i64 a0_0, .int .i64 a0_1, .int .i64 a0_2, .int .i64 a0_3, .int .i64 a0_4, .int .i64 a0_5, .int .i64 a0_6] 52 (0, 0)) (by (with_reducible repeat (first | refine blk_drewN ?_ _ | refine blk_drew ?_ | refine blk_alloc ?_ _)); exact BK326.out)) : gb326 ≠ gb347)); have n9_ := Aside0.mk ((by rw [hg]; exact Nat.ne_of_gt (blk_lt (g := gb326) (o := .cells #[.int .i64 a0_0, .int .i64 a0_1, .int .i64 a0_2, .int .i64 a0_3, .int .i64 a0_4, .int .i64 a0_5, .int .i64 a0_6] 52 (0, 0)) (by (with_reducible repeat (first | refine blk_drewN ?_ _ | refine blk_drew ?_ | refine blk_alloc ?_ _)); exact BK326.out)) : gb347 ≠ gb326)); have n10_ := Aside0.mk ((by rw [hg]; exact Nat.ne_of_lt (blk_lt (g := gb327) (o := .cells #[.string a2_0, .int .i64 a2_1, .int .i64 a2_2] 59 (0, 0)) (by (with_reducible repeat (first | refine blk_drewN ?_ _ | refine blk_drew ?_ | refine blk_alloc ?_ _)); exact BK327.out)) : gb327 ≠ gb347)); have n11_ := Aside0.mk ((by rw [hg]; exact Nat.ne_of_gt (blk_lt (g := gb327) (o := .cells #[.string a2_0, .int .i64 a2_1, .int .i64 a2_2] 59 (0, 0)) (by (with_reducible repeat (first | refine blk_drewN ?_ _ | refine blk_drew ?_ | refine blk_alloc ?_ _)); exact BK327.out)) : gb347 ≠ gb327)); have n12_ := Aside0.mk ((by rw [hg]; exact Nat.ne_of_lt (blk_lt (g := gb328) (o := .cells #[.string a3_0, .string a3_1, .bool a3_2] 32 (0, 0)) (by (with_reducible repeat (first | refine blk_drewN ?_ _ | refine blk_drew ?_ | refine blk_alloc ?_ _)); exact BK328.out)) : gb328 ≠ gb347)); have n13_ := Aside0.mk ((by rw [hg]; exact Nat.ne_of_gt (blk_lt (g := gb328) (o := .cells #[.string a3_0, .string a3_1, .bool a3_2] 32 (0, 0)) (by (with_reducible repeat (first | refine blk_drewN ?_ _ | refine blk_drew ?_ | refine blk_alloc ?_ _)); exact BK328.out)) : gb347 ≠ gb328)); have n14_ := Aside0.mk ((by rw [hg]; exact Nat.ne_of_lt (blk_lt (g := gb333) (o := .cells #[.string t329, .string t330, .bool t331] 32 (0, 0)) (by (with_reducible repeat (first | refine blk_drewN ?_ _ | refine blk_drew ?_ | refine blk_alloc ?_ _)); exact BK333.out)) : gb333 ≠ gb347)); have n15_ := Aside0.mk ((by rw [hg]; exact Nat.ne_of_gt (blk_lt (g := gb333) (o := .cells #[.string t329, .string t330, .bool t331] 32 (0, 0)) (by (with_reducible repeat (first | refine blk_drewN ?_ _ | refine blk_drew ?_ | refine blk_alloc ?_ _)); exact BK333.out)) : gb347 ≠ gb333)); clear BK326; clear BK327; clear BK328; clear BK333; clear HB; have BK326 := n0_; have BK327 := n1_; have BK328 := n2_; have BK333 := n3_; have HB := n4_; have BK347 := n5_; have GW347 := n6_; have GE347 := n7_; have NB326_347 := n8_; have NB347_326 := n9_; have NB327_347 := n10_; have NB347_327 := n11_; have NB328_347 := n12_; have NB347_328 := n13_; have NB333_347 := n14_; have NB347_333 := n15_; clear n0_ n1_ n2_ n3_ n4_ n5_ n6_ n7_ n8_ n9_ n10_ n11_ n12_ n13_ n14_ n15_; clear hb hbox hg; have hnb46 := NB347_326.out; have hnc46 := NB326_347.out; have hnb47 := NB347_327.out; have hnc47 := NB327_347.out; have hnb48 := NB347_328.out; have hnc48 := NB328_347.out; have hnb49 := NB347_333.out; have hnc49 := NB333_347.out; have hcz50_0 : w45.cell? ⟨gb347, 0, none⟩ = some (.string (⟨#[]⟩ : ByteArray)) := (blk_cell BK347.out 0).trans rfl; have hcz50_1 : w45.cell? ⟨gb347, 1, none⟩ = some (.string (⟨#[]⟩ : ByteArray)) := (blk_cell BK347.out 1).trans rfl; have hcz50_2 : w45.cell? ⟨gb347, 2, none⟩ = some (.bool false) := (blk_cell BK347.out 2).trans rfl; have hfz50_0 := blk_frozen BK347.out 0; have hfz50_1 := blk_frozen BK347.out 1; have hfz50_2 := blk_frozen BK347.out 2))
      (try simp only [Act.put, List.setIfInBounds_toArray, List.set_cons_zero, List.set_cons_succ])
      go_cut [] (fun wc => ∃ (kq : Nat), Aside0 (pumicelaw06_NodeBack.j1 kq a4 a3_0 a3_1 a3_2 = some r) ∧ Aside0 (kq ≤ kj6) ∧ Aside0 (wc.heap[gb326]? = some (.cells #[.int .i64 a0_0, .int .i64 a0_1, .int .i64 a0_2, .int .i64 a0_3, .int .i64 a0_4, .int .i64 a0_5, .int .i64 a0_6] 52 (0, 0))) ∧ Aside0 (wc.heap[gb327]? = some (.cells #[.string a2_0, .int .i64 a2_1, .int .i64 a2_2] 59 (0, 0))) ∧ Aside0 (wc.heap[gb328]? = some (.cells #[.string a3_0, .string a3_1, .bool a3_2] 32 (0, 0))) ∧ Aside0 (wc.heap[gb333]? = some (.cells #[.string t329, .string t330, .bool t331] 32 (0, 0))) ∧ Aside0 (wc.heap[gb347]? = some (.cells #[.string t343, .string t344, .bool t345] 32 (0, 0))) ∧ Aside0 (Below w.heap.size w wc))
      case first =>
        have H := HC39.out
        clear HC39
        by_cases c51 : t346 = 0
        · rw [if_pos c51] at H
          have c51b0 : (t346 == 0) = true := beq_iff_eq.mpr c51
          have c51b1 : (t346 != 0) = false := bne_eq_false_iff_eq.mpr c51
          clear c51
          (first | rw [c51b0] | (simp only [i64_w, i32_w]; rw [c51b0]) | skip)
          replace H := Option.bind_eq_some_iff.mp H
          obtain ⟨⟨t348, t349, t350, t351, t352⟩, A520, H⟩ := H
          replace H : (if t352 = true then (if t348 = a1 then (if (!(t349.toList == a2_0.toList) || (!(t350 == a2_1) || (!(t351 == a2_2)))) = true then (none) else (pumicelaw06_NodeBack.j1 kj6 a4 a3_0 a3_1 a3_2)) else (none)) else (none)) = some r := H
          have A52 := Aside0.mk A520
          clear A520
          by_cases c53 : t352 = true
          · subst c53
            have H1 : (if t348 = a1 then (if (!(t349.toList == a2_0.toList) || (!(t350 == a2_1) || (!(t351 == a2_2)))) = true then (none) else (pumicelaw06_NodeBack.j1 kj6 a4 a3_0 a3_1 a3_2)) else (none)) = some r := by rw [if_pos rfl] at H; exact H
            clear H
            have H := H1
            clear H1
            by_cases c54 : t348 = a1
            · rw [if_pos c54] at H
              have c54b0 : (t348 == a1) = true := beq_iff_eq.mpr c54
              have c54b1 : (t348 != a1) = false := bne_eq_false_iff_eq.mpr c54
              clear c54
              by_cases c55 : (!(t349.toList == a2_0.toList) || (!(t350 == a2_1) || (!(t351 == a2_2)))) = true
              · rw [if_pos c55] at H
                exact absurd H (by simp)
              · rw [if_neg c55] at H
                have c55b0 : (!(t349.toList == a2_0.toList) || (!(t350 == a2_1) || (!(t351 == a2_2)))) = false := by simpa using c55
                clear c55
                have H' := Aside0.mk H
                clear H
                have hnb56 := NB347_326.out
                have hnc56 := NB326_347.out
                have hnb57 := NB347_327.out
                have hnc57 := NB327_347.out
                have hnb58 := NB347_328.out
                have hnc58 := NB328_347.out
                have hnb59 := NB347_333.out
                have hnc59 := NB333_347.out
                have hcz60_0 : w45.cell? ⟨gb347, 0, none⟩ = some (.string (⟨#[]⟩ : ByteArray)) := (blk_cell BK347.out 0).trans rfl
                have hcz60_1 : w45.cell? ⟨gb347, 1, none⟩ = some (.string (⟨#[]⟩ : ByteArray)) := (blk_cell BK347.out 1).trans rfl
                have hcz60_2 : w45.cell? ⟨gb347, 2, none⟩ = some (.bool false) := (blk_cell BK347.out 2).trans rfl
                have hfz60_0 := blk_frozen BK347.out 0
                have hfz60_1 := blk_frozen BK347.out 1
                have hfz60_2 := blk_frozen BK347.out 2
                go_wp2_with (first | ((with_reducible refine gate_callee (f := 42) rfl ?_); refine goesL_ (some 61) rfl rfl Try.func42 (by kernel_rfl) rfl #[.agg #[.string t343, .string t344, .bool t345]] rfl (by (try simp only [List.map_toArray, List.map_cons, List.map_nil]); first | done | rfl | (simp only [List.length_drop, List.length_take]; rfl)) ?_; (with_reducible refine (node_ParseEntry.calls t343 t344 t345 t348 t349 t350 t351 true _ A52.out).mono ?_); rintro e w61 ⟨rfl, hb⟩; refine ⟨_, rfl, ?_⟩; have n0_ := Aside0.mk (blk_below (g := gb326) (o := .cells #[.int .i64 a0_0, .int .i64 a0_1, .int .i64 a0_2, .int .i64 a0_3, .int .i64 a0_4, .int .i64 a0_5, .int .i64 a0_6] 52 (0, 0)) (by (with_reducible repeat (first | refine blk_drewN ?_ _ | refine blk_drew ?_ | refine blk_alloc ?_ _)); refine blk_far ?_ NB326_347.out _; (with_reducible repeat (first | refine blk_drewN ?_ _ | refine blk_drew ?_ | refine blk_alloc ?_ _)); refine blk_far ?_ NB326_347.out _; (with_reducible repeat (first | refine blk_drewN ?_ _ | refine blk_drew ?_ | refine blk_alloc ?_ _)); refine blk_far ?_ NB326_347.out _; (with_reducible repeat (first | refine blk_drewN ?_ _ | refine blk_drew ?_ | refine blk_alloc ?_ _)); exact BK326.out) hb); have n1_ := Aside0.mk (blk_below (g := gb327) (o := .cells #[.string a2_0, .int .i64 a2_1, .int .i64 a2_2] 59 (0, 0)) (by (with_reducible repeat (first | refine blk_drewN ?_ _ | refine blk_drew ?_ | refine blk_alloc ?_ _)); refine blk_far ?_ NB327_347.out _; (with_reducible repeat (first | refine blk_drewN ?_ _ | refine blk_drew ?_ | refine blk_alloc ?_ _)); refine blk_far ?_ NB327_347.out _; (with_reducible repeat (first | refine blk_drewN ?_ _ | refine blk_drew ?_ | refine blk_alloc ?_ _)); refine blk_far ?_ NB327_347.out _; (with_reducible repeat (first | refine blk_drewN ?_ _ | refine blk_drew ?_ | refine blk_alloc ?_ _)); exact BK327.out) hb); have n2_ := Aside0.mk (blk_below (g := gb328) (o := .cells #[.string a3_0, .string a3_1, .bool a3_2] 32 (0, 0)) (by (with_reducible repeat (first | refine blk_drewN ?_ _ | refine blk_drew ?_ | refine blk_alloc ?_ _)); refine blk_far ?_ NB328_347.out _; (with_reducible repeat (first | refine blk_drewN ?_ _ | refine blk_drew ?_ | refine blk_alloc ?_ _)); refine blk_far ?_ NB328_347.out _; (with_reducible repeat (first | refine blk_drewN ?_ _ | refine blk_drew ?_ | refine blk_alloc ?_ _)); refine blk_far ?_ NB328_347.out _; (with_reducible repeat (first | refine blk_drewN ?_ _ | refine blk_drew ?_ | refine blk_alloc ?_ _)); exact BK328.out) hb); have n3_ := Aside0.mk (blk_below (g := gb333) (o := .cells #[.string t329, .string t330, .bool t331] 32 (0, 0)) (by (with_reducible repeat (first | refine blk_drewN ?_ _ | refine blk_drew ?_ | refine blk_alloc ?_ _)); refine blk_far ?_ NB333_347.out _; (with_reducible repeat (first | refine blk_drewN ?_ _ | refine blk_drew ?_ | refine blk_alloc ?_ _)); refine blk_far ?_ NB333_347.out _; (with_reducible repeat (first | refine blk_drewN ?_ _ | refine blk_drew ?_ | refine blk_alloc ?_ _)); refine blk_far ?_ NB333_347.out _; (with_reducible repeat (first | refine blk_drewN ?_ _ | refine blk_drew ?_ | refine blk_alloc ?_ _)); exact BK333.out) hb); have n4_ := Aside0.mk (blk_below (g := gb347) (o := .cells #[.string t343, .string t344, .bool t345] 32 (0, 0)) (by (with_reducible repeat (first | refine blk_drewN ?_ _ | refine blk_drew ?_ | refine blk_alloc ?_ _)); refine blk_put (cs := #[.string t343, .string t344, .bool false]) ?_ 2 _ rfl; (with_reducible repeat (first | refine blk_drewN ?_ _ | refine blk_drew ?_ | refine blk_alloc ?_ _)); refine blk_put (cs := #[.string t343, .string (⟨#[]⟩ : ByteArray), .bool false]) ?_ 1 _ rfl; (with_reducible repeat (first | refine blk_drewN ?_ _ | refine blk_drew ?_ | refine blk_alloc ?_ _)); refine blk_put (cs := #[.string (⟨#[]⟩ : ByteArray), .string (⟨#[]⟩ : ByteArray), .bool false]) ?_ 0 _ rfl; (with_reducible repeat (first | refine blk_drewN ?_ _ | refine blk_drew ?_ | refine blk_alloc ?_ _)); exact BK347.out) hb); have n5_ := Aside0.mk (below_step (by repeat (first | (with_reducible first | exact HB.out | apply below_alloc | apply pw_below_drewN | apply below_drew1 | refine below_set ?_ GE326.out | refine below_set ?_ GE327.out | refine below_set ?_ GE328.out | refine below_set ?_ GE333.out | refine below_set ?_ GE347.out) | exact HB.out)) hb); clear BK326; clear BK327; clear BK328; clear BK333; clear BK347; clear HB; have BK326 := n0_; have BK327 := n1_; have BK328 := n2_; have BK333 := n3_; have BK347 := n4_; have HB := n5_; clear n0_ n1_ n2_ n3_ n4_ n5_; (try clear hb); (try clear hb2); (try clear hk); (try clear hi)) | ((with_reducible refine gate_dst (N := 17) rfl ?_); (try (refine gate_guard (by rfl) ?_; dsimp only)); refine box_event ?hg (N := 17) ?hd (cs := #[.string (⟨#[]⟩ : ByteArray), .int .i64 0, .int .i64 0]) (t := 59) ?hr ?_; (case hd => rfl); (case hg => rfl); (case hr => first | (go_simp; done) | (go_simp; rfl)); intro gb353 hg w62 hbox hb; have n0_ := Aside0.mk (blk_below (g := gb326) (o := .cells #[.int .i64 a0_0, .int .i64 a0_1, .int .i64 a0_2, .int .i64 a0_3, .int .i64 a0_4, .int .i64 a0_5, .int .i64 a0_6] 52 (0, 0)) (by (with_reducible repeat (first | refine blk_drewN ?_ _ | refine blk_drew ?_ | refine blk_alloc ?_ _)); exact BK326.out) hb); have n1_ := Aside0.mk (blk_below (g := gb327) (o := .cells #[.string a2_0, .int .i64 a2_1, .int .i64 a2_2] 59 (0, 0)) (by (with_reducible repeat (first | refine blk_drewN ?_ _ | refine blk_drew ?_ | refine blk_alloc ?_ _)); exact BK327.out) hb); have n2_ := Aside0.mk (blk_below (g := gb328) (o := .cells #[.string a3_0, .string a3_1, .bool a3_2] 32 (0, 0)) (by (with_reducible repeat (first | refine blk_drewN ?_ _ | refine blk_drew ?_ | refine blk_alloc ?_ _)); exact BK328.out) hb); have n3_ := Aside0.mk (blk_below (g := gb333) (o := .cells #[.string t329, .string t330, .bool t331] 32 (0, 0)) (by (with_reducible repeat (first | refine blk_drewN ?_ _ | refine blk_drew ?_ | refine blk_alloc ?_ _)); exact BK333.out) hb); have n4_ := Aside0.mk (blk_below (g := gb347) (o := .cells #[.string t343, .string t344, .bool t345] 32 (0, 0)) (by (with_reducible repeat (first | refine blk_drewN ?_ _ | refine blk_drew ?_ | refine blk_alloc ?_ _)); exact BK347.out) hb); have n5_ := Aside0.mk (below_step (by repeat (first | (with_reducible first | exact HB.out | apply below_alloc | apply pw_below_drewN | apply below_drew1 | refine below_set ?_ GE326.out | refine below_set ?_ GE327.out | refine below_set ?_ GE328.out | refine below_set ?_ GE333.out | refine below_set ?_ GE347.out) | exact HB.out)) hb); have n6_ := Aside0.mk (hbox); have n7_ := Aside0.mk ((by rw [hg]; exact (below_size (by repeat (first | (with_reducible first | exact HB.out | apply below_alloc | apply pw_below_drewN | apply below_drew1 | refine below_set ?_ GE326.out | refine below_set ?_ GE327.out | refine below_set ?_ GE328.out | refine below_set ?_ GE333.out | refine below_set ?_ GE347.out) | exact HB.out))) : w.heap.size ≤ gb353)); have n8_ := Aside0.mk ((by rw [hg]; exact (below_size (by repeat (first | (with_reducible first | exact HB.out | apply below_alloc | apply pw_below_drewN | apply below_drew1 | refine below_set ?_ GE326.out | refine below_set ?_ GE327.out | refine below_set ?_ GE328.out | refine below_set ?_ GE333.out | refine below_set ?_ GE347.out) | exact HB.out))) : w.heap.size ≤ gb353)); have n9_ := Aside0.mk ((by rw [hg]; exact Nat.ne_of_lt (blk_lt (g := gb326) (o := .cells #[.int .i64 a0_0, .int .i64 a0_1, .int .i64 a0_2, .int .i64 a0_3, .int .i64 a0_4, .int .i64 a0_5, .int .i64 a0_6] 52 (0, 0)) (by (with_reducible repeat (first | refine blk_drewN ?_ _ | refine blk_drew ?_ | refine blk_alloc ?_ _)); exact BK326.out)) : gb326 ≠ gb353)); have n10_ := Aside0.mk ((by rw [hg]; exact Nat.ne_of_gt (blk_lt (g := gb326) (o := .cells #[.int .i64 a0_0, .int .i64 a0_1, .int .i64 a0_2, .int .i64 a0_3, .int .i64 a0_4, .int .i64 a0_5, .int .i64 a0_6] 52 (0, 0)) (by (with_reducible repeat (first | refine blk_drewN ?_ _ | refine blk_drew ?_ | refine blk_alloc ?_ _)); exact BK326.out)) : gb353 ≠ gb326)); have n11_ := Aside0.mk ((by rw [hg]; exact Nat.ne_of_lt (blk_lt (g := gb327) (o := .cells #[.string a2_0, .int .i64 a2_1, .int .i64 a2_2] 59 (0, 0)) (by (with_reducible repeat (first | refine blk_drewN ?_ _ | refine blk_drew ?_ | refine blk_alloc ?_ _)); exact BK327.out)) : gb327 ≠ gb353)); have n12_ := Aside0.mk ((by rw [hg]; exact Nat.ne_of_gt (blk_lt (g := gb327) (o := .cells #[.string a2_0, .int .i64 a2_1, .int .i64 a2_2] 59 (0, 0)) (by (with_reducible repeat (first | refine blk_drewN ?_ _ | refine blk_drew ?_ | refine blk_alloc ?_ _)); exact BK327.out)) : gb353 ≠ gb327)); have n13_ := Aside0.mk ((by rw [hg]; exact Nat.ne_of_lt (blk_lt (g := gb328) (o := .cells #[.string a3_0, .string a3_1, .bool a3_2] 32 (0, 0)) (by (with_reducible repeat (first | refine blk_drewN ?_ _ | refine blk_drew ?_ | refine blk_alloc ?_ _)); exact BK328.out)) : gb328 ≠ gb353)); have n14_ := Aside0.mk ((by rw [hg]; exact Nat.ne_of_gt (blk_lt (g := gb328) (o := .cells #[.string a3_0, .string a3_1, .bool a3_2] 32 (0, 0)) (by (with_reducible repeat (first | refine blk_drewN ?_ _ | refine blk_drew ?_ | refine blk_alloc ?_ _)); exact BK328.out)) : gb353 ≠ gb328)); have n15_ := Aside0.mk ((by rw [hg]; exact Nat.ne_of_lt (blk_lt (g := gb333) (o := .cells #[.string t329, .string t330, .bool t331] 32 (0, 0)) (by (with_reducible repeat (first | refine blk_drewN ?_ _ | refine blk_drew ?_ | refine blk_alloc ?_ _)); exact BK333.out)) : gb333 ≠ gb353)); have n16_ := Aside0.mk ((by rw [hg]; exact Nat.ne_of_gt (blk_lt (g := gb333) (o := .cells #[.string t329, .string t330, .bool t331] 32 (0, 0)) (by (with_reducible repeat (first | refine blk_drewN ?_ _ | refine blk_drew ?_ | refine blk_alloc ?_ _)); exact BK333.out)) : gb353 ≠ gb333)); have n17_ := Aside0.mk ((by rw [hg]; exact Nat.ne_of_lt (blk_lt (g := gb347) (o := .cells #[.string t343, .string t344, .bool t345] 32 (0, 0)) (by (with_reducible repeat (first | refine blk_drewN ?_ _ | refine blk_drew ?_ | refine blk_alloc ?_ _)); exact BK347.out)) : gb347 ≠ gb353)); have n18_ := Aside0.mk ((by rw [hg]; exact Nat.ne_of_gt (blk_lt (g := gb347) (o := .cells #[.string t343, .string t344, .bool t345] 32 (0, 0)) (by (with_reducible repeat (first | refine blk_drewN ?_ _ | refine blk_drew ?_ | refine blk_alloc ?_ _)); exact BK347.out)) : gb353 ≠ gb347)); clear BK326; clear BK327; clear BK328; clear BK333; clear BK347; clear HB; have BK326 := n0_; have BK327 := n1_; have BK328 := n2_; have BK333 := n3_; have BK347 := n4_; have HB := n5_; have BK353 := n6_; have GW353 := n7_; have GE353 := n8_; have NB326_353 := n9_; have NB353_326 := n10_; have NB327_353 := n11_; have NB353_327 := n12_; have NB328_353 := n13_; have NB353_328 := n14_; have NB333_353 := n15_; have NB353_333 := n16_; have NB347_353 := n17_; have NB353_347 := n18_; clear n0_ n1_ n2_ n3_ n4_ n5_ n6_ n7_ n8_ n9_ n10_ n11_ n12_ n13_ n14_ n15_ n16_ n17_ n18_; clear hb hbox hg; have hnb63 := NB353_326.out; have hnc63 := NB326_353.out; have hnb64 := NB353_327.out; have hnc64 := NB327_353.out; have hnb65 := NB353_328.out; have hnc65 := NB328_353.out; have hnb66 := NB353_333.out; have hnc66 := NB333_353.out; have hnb67 := NB353_347.out; have hnc67 := NB347_353.out; have hcz68_0 : w62.cell? ⟨gb353, 0, none⟩ = some (.string (⟨#[]⟩ : ByteArray)) := (blk_cell BK353.out 0).trans rfl; have hcz68_1 : w62.cell? ⟨gb353, 1, none⟩ = some (.int .i64 0) := (blk_cell BK353.out 1).trans rfl; have hcz68_2 : w62.cell? ⟨gb353, 2, none⟩ = some (.int .i64 0) := (blk_cell BK353.out 2).trans rfl; have hfz68_0 := blk_frozen BK353.out 0; have hfz68_1 := blk_frozen BK353.out 1; have hfz68_2 := blk_frozen BK353.out 2; have hnb69 := NB327_326.out; have hnc69 := NB326_327.out; have hnb70 := NB327_328.out; have hnc70 := NB328_327.out; have hnb71 := NB327_333.out; have hnc71 := NB333_327.out; have hcz72_0 : w62.cell? ⟨gb327, 0, none⟩ = some (.string a2_0) := (blk_cell BK327.out 0).trans rfl; have hcz72_1 : w62.cell? ⟨gb327, 1, none⟩ = some (.int .i64 a2_1) := (blk_cell BK327.out 1).trans rfl; have hcz72_2 : w62.cell? ⟨gb327, 2, none⟩ = some (.int .i64 a2_2) := (blk_cell BK327.out 2).trans rfl; have hfz72_0 := blk_frozen BK327.out 0; have hfz72_1 := blk_frozen BK327.out 1; have hfz72_2 := blk_frozen BK327.out 2))
                go_meet
                case rel => exact ⟨_, H', ⟨by have := HJ6.out; first | omega | exact Nat.le_refl _⟩, ⟨by (with_reducible repeat (first | refine blk_drewN ?_ _ | refine blk_drew ?_ | refine blk_alloc ?_ _)); refine blk_far ?_ NB326_353.out _; (with_reducible repeat (first | refine blk_drewN ?_ _ | refine blk_drew ?_ | refine blk_alloc ?_ _)); refine blk_far ?_ NB326_353.out _; (with_reducible repeat (first | refine blk_drewN ?_ _ | refine blk_drew ?_ | refine blk_alloc ?_ _)); refine blk_far ?_ NB326_353.out _; (with_reducible repeat (first | refine blk_drewN ?_ _ | refine blk_drew ?_ | refine blk_alloc ?_ _)); exact BK326.out⟩, ⟨by (with_reducible repeat (first | refine blk_drewN ?_ _ | refine blk_drew ?_ | refine blk_alloc ?_ _)); refine blk_far ?_ NB327_353.out _; (with_reducible repeat (first | refine blk_drewN ?_ _ | refine blk_drew ?_ | refine blk_alloc ?_ _)); refine blk_far ?_ NB327_353.out _; (with_reducible repeat (first | refine blk_drewN ?_ _ | refine blk_drew ?_ | refine blk_alloc ?_ _)); refine blk_far ?_ NB327_353.out _; (with_reducible repeat (first | refine blk_drewN ?_ _ | refine blk_drew ?_ | refine blk_alloc ?_ _)); exact BK327.out⟩, ⟨by (with_reducible repeat (first | refine blk_drewN ?_ _ | refine blk_drew ?_ | refine blk_alloc ?_ _)); refine blk_far ?_ NB328_353.out _; (with_reducible repeat (first | refine blk_drewN ?_ _ | refine blk_drew ?_ | refine blk_alloc ?_ _)); refine blk_far ?_ NB328_353.out _; (with_reducible repeat (first | refine blk_drewN ?_ _ | refine blk_drew ?_ | refine blk_alloc ?_ _)); refine blk_far ?_ NB328_353.out _; (with_reducible repeat (first | refine blk_drewN ?_ _ | refine blk_drew ?_ | refine blk_alloc ?_ _)); exact BK328.out⟩, ⟨by (with_reducible repeat (first | refine blk_drewN ?_ _ | refine blk_drew ?_ | refine blk_alloc ?_ _)); refine blk_far ?_ NB333_353.out _; (with_reducible repeat (first | refine blk_drewN ?_ _ | refine blk_drew ?_ | refine blk_alloc ?_ _)); refine blk_far ?_ NB333_353.out _; (with_reducible repeat (first | refine blk_drewN ?_ _ | refine blk_drew ?_ | refine blk_alloc ?_ _)); refine blk_far ?_ NB333_353.out _; (with_reducible repeat (first | refine blk_drewN ?_ _ | refine blk_drew ?_ | refine blk_alloc ?_ _)); exact BK333.out⟩, ⟨by (with_reducible repeat (first | refine blk_drewN ?_ _ | refine blk_drew ?_ | refine blk_alloc ?_ _)); refine blk_far ?_ NB347_353.out _; (with_reducible repeat (first | refine blk_drewN ?_ _ | refine blk_drew ?_ | refine blk_alloc ?_ _)); refine blk_far ?_ NB347_353.out _; (with_reducible repeat (first | refine blk_drewN ?_ _ | refine blk_drew ?_ | refine blk_alloc ?_ _)); refine blk_far ?_ NB347_353.out _; (with_reducible repeat (first | refine blk_drewN ?_ _ | refine blk_drew ?_ | refine blk_alloc ?_ _)); exact BK347.out⟩, ⟨by repeat (first | (with_reducible first | exact HB.out | apply below_alloc | apply pw_below_drewN | apply below_drew1 | refine below_set ?_ GE326.out | refine below_set ?_ GE327.out | refine below_set ?_ GE328.out | refine below_set ?_ GE333.out | refine below_set ?_ GE347.out | refine below_set ?_ GE353.out) | exact HB.out)⟩⟩
            · rw [if_neg c54] at H
              exact absurd H (by simp)
          · replace c53 := Bool.eq_false_iff.mpr c53
            subst c53
            have H1 : (none) = some r := by rw [if_neg (show ¬ (false = true) by decide)] at H; exact H
            clear H
            have H := H1
            clear H1
            exact absurd H (by simp)
        · rw [if_neg c51] at H
          have c51b0 : (t346 == 0) = false := beq_eq_false_iff_ne.mpr c51
          have c51b1 : (t346 != 0) = true := bne_iff_ne.mpr c51
          (first | rw [c51b0] | (simp only [i64_w, i32_w]; rw [c51b0]) | skip)
          have H' := Aside0.mk H
          clear H
          go_wp2
          go_meet
          case rel => exact ⟨_, H', ⟨by have := HJ6.out; first | omega | exact Nat.le_refl _⟩, ⟨by (with_reducible repeat (first | refine blk_drewN ?_ _ | refine blk_drew ?_ | refine blk_alloc ?_ _)); refine blk_far ?_ NB326_347.out _; (with_reducible repeat (first | refine blk_drewN ?_ _ | refine blk_drew ?_ | refine blk_alloc ?_ _)); refine blk_far ?_ NB326_347.out _; (with_reducible repeat (first | refine blk_drewN ?_ _ | refine blk_drew ?_ | refine blk_alloc ?_ _)); refine blk_far ?_ NB326_347.out _; (with_reducible repeat (first | refine blk_drewN ?_ _ | refine blk_drew ?_ | refine blk_alloc ?_ _)); exact BK326.out⟩, ⟨by (with_reducible repeat (first | refine blk_drewN ?_ _ | refine blk_drew ?_ | refine blk_alloc ?_ _)); refine blk_far ?_ NB327_347.out _; (with_reducible repeat (first | refine blk_drewN ?_ _ | refine blk_drew ?_ | refine blk_alloc ?_ _)); refine blk_far ?_ NB327_347.out _; (with_reducible repeat (first | refine blk_drewN ?_ _ | refine blk_drew ?_ | refine blk_alloc ?_ _)); refine blk_far ?_ NB327_347.out _; (with_reducible repeat (first | refine blk_drewN ?_ _ | refine blk_drew ?_ | refine blk_alloc ?_ _)); exact BK327.out⟩, ⟨by (with_reducible repeat (first | refine blk_drewN ?_ _ | refine blk_drew ?_ | refine blk_alloc ?_ _)); refine blk_far ?_ NB328_347.out _; (with_reducible repeat (first | refine blk_drewN ?_ _ | refine blk_drew ?_ | refine blk_alloc ?_ _)); refine blk_far ?_ NB328_347.out _; (with_reducible repeat (first | refine blk_drewN ?_ _ | refine blk_drew ?_ | refine blk_alloc ?_ _)); refine blk_far ?_ NB328_347.out _; (with_reducible repeat (first | refine blk_drewN ?_ _ | refine blk_drew ?_ | refine blk_alloc ?_ _)); exact BK328.out⟩, ⟨by (with_reducible repeat (first | refine blk_drewN ?_ _ | refine blk_drew ?_ | refine blk_alloc ?_ _)); refine blk_far ?_ NB333_347.out _; (with_reducible repeat (first | refine blk_drewN ?_ _ | refine blk_drew ?_ | refine blk_alloc ?_ _)); refine blk_far ?_ NB333_347.out _; (with_reducible repeat (first | refine blk_drewN ?_ _ | refine blk_drew ?_ | refine blk_alloc ?_ _)); refine blk_far ?_ NB333_347.out _; (with_reducible repeat (first | refine blk_drewN ?_ _ | refine blk_drew ?_ | refine blk_alloc ?_ _)); exact BK333.out⟩, ⟨by (with_reducible repeat (first | refine blk_drewN ?_ _ | refine blk_drew ?_ | refine blk_alloc ?_ _)); refine blk_put (cs := #[.string t343, .string t344, .bool false]) ?_ 2 _ rfl; (with_reducible repeat (first | refine blk_drewN ?_ _ | refine blk_drew ?_ | refine blk_alloc ?_ _)); refine blk_put (cs := #[.string t343, .string (⟨#[]⟩ : ByteArray), .bool false]) ?_ 1 _ rfl; (with_reducible repeat (first | refine blk_drewN ?_ _ | refine blk_drew ?_ | refine blk_alloc ?_ _)); refine blk_put (cs := #[.string (⟨#[]⟩ : ByteArray), .string (⟨#[]⟩ : ByteArray), .bool false]) ?_ 0 _ rfl; (with_reducible repeat (first | refine blk_drewN ?_ _ | refine blk_drew ?_ | refine blk_alloc ?_ _)); exact BK347.out⟩, ⟨by repeat (first | (with_reducible first | exact HB.out | apply below_alloc | apply pw_below_drewN | apply below_drew1 | refine below_set ?_ GE326.out | refine below_set ?_ GE327.out | refine below_set ?_ GE328.out | refine below_set ?_ GE333.out | refine below_set ?_ GE347.out) | exact HB.out)⟩⟩
      case rest =>
        clear HC39
        try clear c1
        try clear c2
        try clear p2
        try clear c3
        try clear c4
        try clear c5
        try clear c6
        try clear c7
        try clear c9
        try clear c11
        try clear c12
        try clear c16
        try clear c17
        try clear c18
        try clear c20
        try clear c20b0
        try clear c20b1
        try clear c22
        try clear c23
        try clear c23b0
        try clear c24
        try clear c25
        try clear c26
        try clear c30
        try clear c31
        try clear c32
        try clear c33
        try clear c34
        try clear c35
        try clear c36
        try clear c40
        try clear c41
        try clear c42
        try clear c46
        try clear c47
        try clear c48
        try clear c49
        try clear c51
        try clear c51b0
        try clear c51b1
        try clear c53
        try clear c54
        try clear c54b0
        try clear c54b1
        try clear c55
        try clear c55b0
        try clear c56
        try clear c57
        try clear c58
        try clear c59
        try clear c63
        try clear c64
        try clear c65
        try clear c66
        try clear c67
        try clear c69
        try clear c70
        try clear c71
        try clear hcz13_0
        try clear hcz13_1
        try clear hcz13_2
        try clear hcz13_3
        try clear hcz13_4
        try clear hcz13_5
        try clear hcz13_6
        try clear hcz19_0
        try clear hcz19_1
        try clear hcz19_2
        try clear hcz27_0
        try clear hcz27_1
        try clear hcz27_2
        try clear hcz34_0
        try clear hcz34_1
        try clear hcz34_2
        try clear hcz34_3
        try clear hcz34_4
        try clear hcz34_5
        try clear hcz34_6
        try clear hcz37_0
        try clear hcz37_1
        try clear hcz37_2
        try clear hcz37_3
        try clear hcz37_4
        try clear hcz37_5
        try clear hcz37_6
        try clear hcz43_0
        try clear hcz43_1
        try clear hcz43_2
        try clear hcz50_0
        try clear hcz50_1
        try clear hcz50_2
        try clear hcz60_0
        try clear hcz60_1
        try clear hcz60_2
        try clear hcz68_0
        try clear hcz68_1
        try clear hcz68_2
        try clear hcz72_0
        try clear hcz72_1
        try clear hcz72_2
        try clear hfz13_0
        try clear hfz13_1
        try clear hfz13_2
        try clear hfz13_3
        try clear hfz13_4
        try clear hfz13_5
        try clear hfz13_6
        try clear hfz19_0
        try clear hfz19_1
        try clear hfz19_2
        try clear hfz27_0
        try clear hfz27_1
        try clear hfz27_2
        try clear hfz34_0
        try clear hfz34_1
        try clear hfz34_2
        try clear hfz34_3
        try clear hfz34_4
        try clear hfz34_5
        try clear hfz34_6
        try clear hfz37_0
        try clear hfz37_1
        try clear hfz37_2
        try clear hfz37_3
        try clear hfz37_4
        try clear hfz37_5
        try clear hfz37_6
        try clear hfz43_0
        try clear hfz43_1
        try clear hfz43_2
        try clear hfz50_0
        try clear hfz50_1
        try clear hfz50_2
        try clear hfz60_0
        try clear hfz60_1
        try clear hfz60_2
        try clear hfz68_0
        try clear hfz68_1
        try clear hfz68_2
        try clear hfz72_0
        try clear hfz72_1
        try clear hfz72_2
        try clear p2
        obtain ⟨kq, HA, HJ38, BK326, BK327, BK328, BK333, BK347, HB⟩ := hcut
        cases kq with
        | zero => exact absurd HA.out (by simp [pumicelaw06_NodeBack.j1])
        | succ kj38 =>
          have H := HA.out
          clear HA
          simp only [pumicelaw06_NodeBack.j1] at H
          replace H := Option.bind_eq_some_iff.mp H
          obtain ⟨⟨t354, t357⟩, A730, H⟩ := H
          replace H : (if t357 = 0 then ((node_Unpack.f t354).bind fun bt358 => (if bt358.2.2.2 = true then (if (!(bt358.1.toList == a3_0.toList) || (!(bt358.2.1.toList == a3_1.toList) || (!(bt358.2.2.1 == a3_2)))) = true then (pumicelaw06_NodeBack.j2 kj38 a4 t354 true) else ((node_Size.f a3_0 a3_1 a3_2).bind fun t363 => (pumicelaw06_NodeBack.j2 kj38 a4 t354 (t363 != (wrap64 (6 + (t354.length : Int))))))) else (pumicelaw06_NodeBack.j2 kj38 a4 t354 true))) else (pumicelaw06_NodeBack.j3 kj38 a4)) = some r := H
          have A73 := Aside0.mk A730
          clear A730
          have HC74 := Aside0.mk H
          clear H
          have hnb75 := NB328_326.out
          have hnc75 := NB326_328.out
          have hnb76 := NB328_327.out
          have hnc76 := NB327_328.out
          have hnb77 := NB328_333.out
          have hnc77 := NB333_328.out
          have hnb78 := NB328_347.out
          have hnc78 := NB347_328.out
          have hcz79_0 : wc.cell? ⟨gb328, 0, none⟩ = some (.string a3_0) := (blk_cell BK328.out 0).trans rfl
          have hcz79_1 : wc.cell? ⟨gb328, 1, none⟩ = some (.string a3_1) := (blk_cell BK328.out 1).trans rfl
          have hcz79_2 : wc.cell? ⟨gb328, 2, none⟩ = some (.bool a3_2) := (blk_cell BK328.out 2).trans rfl
          have hfz79_0 := blk_frozen BK328.out 0
          have hfz79_1 := blk_frozen BK328.out 1
          have hfz79_2 := blk_frozen BK328.out 2
          go_upto_if 83 with (first | ((with_reducible refine gate_callee (f := 18) rfl ?_); refine goesL_ (some 79) rfl rfl Try.func18 (by kernel_rfl) rfl #[.agg #[.string a3_0, .string a3_1, .bool a3_2]] rfl (by (try simp only [List.map_toArray, List.map_cons, List.map_nil]); first | done | rfl | (simp only [List.length_drop, List.length_take]; rfl)) ?_; (with_reducible refine (node_Pack.calls a3_0 a3_1 a3_2 t354 t357 _ A73.out).mono ?_); rintro e w80 ⟨v355, rfl, ho0, hb⟩; refine ⟨_, rfl, ?_⟩; have n0_ := Aside0.mk (Kd.R_lower ho0 (below_size (by repeat (first | (with_reducible first | exact HB.out | apply below_alloc | apply pw_below_drewN | apply below_drew1 | refine below_set ?_ GE326.out | refine below_set ?_ GE327.out | refine below_set ?_ GE328.out | refine below_set ?_ GE333.out | refine below_set ?_ GE347.out) | exact HB.out)))); have n1_ := Aside0.mk (blk_below (g := gb326) (o := .cells #[.int .i64 a0_0, .int .i64 a0_1, .int .i64 a0_2, .int .i64 a0_3, .int .i64 a0_4, .int .i64 a0_5, .int .i64 a0_6] 52 (0, 0)) (by (with_reducible repeat (first | refine blk_drewN ?_ _ | refine blk_drew ?_ | refine blk_alloc ?_ _)); exact BK326.out) hb); have n2_ := Aside0.mk (blk_below (g := gb327) (o := .cells #[.string a2_0, .int .i64 a2_1, .int .i64 a2_2] 59 (0, 0)) (by (with_reducible repeat (first | refine blk_drewN ?_ _ | refine blk_drew ?_ | refine blk_alloc ?_ _)); exact BK327.out) hb); have n3_ := Aside0.mk (blk_below (g := gb328) (o := .cells #[.string a3_0, .string a3_1, .bool a3_2] 32 (0, 0)) (by (with_reducible repeat (first | refine blk_drewN ?_ _ | refine blk_drew ?_ | refine blk_alloc ?_ _)); exact BK328.out) hb); have n4_ := Aside0.mk (blk_below (g := gb333) (o := .cells #[.string t329, .string t330, .bool t331] 32 (0, 0)) (by (with_reducible repeat (first | refine blk_drewN ?_ _ | refine blk_drew ?_ | refine blk_alloc ?_ _)); exact BK333.out) hb); have n5_ := Aside0.mk (blk_below (g := gb347) (o := .cells #[.string t343, .string t344, .bool t345] 32 (0, 0)) (by (with_reducible repeat (first | refine blk_drewN ?_ _ | refine blk_drew ?_ | refine blk_alloc ?_ _)); exact BK347.out) hb); have n6_ := Aside0.mk (below_step (by repeat (first | (with_reducible first | exact HB.out | apply below_alloc | apply pw_below_drewN | apply below_drew1 | refine below_set ?_ GE326.out | refine below_set ?_ GE327.out | refine below_set ?_ GE328.out | refine below_set ?_ GE333.out | refine below_set ?_ GE347.out) | exact HB.out)) hb); clear BK326; clear BK327; clear BK328; clear BK333; clear BK347; clear HB; have HO356 := n0_; have BK326 := n1_; have BK327 := n2_; have BK328 := n3_; have BK333 := n4_; have BK347 := n5_; have HB := n6_; clear n0_ n1_ n2_ n3_ n4_ n5_ n6_; (try clear hb); (try clear hb2); (try clear hk); (try clear hi); (try clear ho0)))
          (try simp only [Act.put, List.setIfInBounds_toArray, List.set_cons_zero, List.set_cons_succ])
          go_cut [] (fun wc => ∃ (kq : Nat), Aside0 (pumicelaw06_NodeBack.j3 kq a4 = some r) ∧ Aside0 (kq ≤ kj38) ∧ Aside0 (wc.heap[gb326]? = some (.cells #[.int .i64 a0_0, .int .i64 a0_1, .int .i64 a0_2, .int .i64 a0_3, .int .i64 a0_4, .int .i64 a0_5, .int .i64 a0_6] 52 (0, 0))) ∧ Aside0 (wc.heap[gb327]? = some (.cells #[.string a2_0, .int .i64 a2_1, .int .i64 a2_2] 59 (0, 0))) ∧ Aside0 (wc.heap[gb328]? = some (.cells #[.string a3_0, .string a3_1, .bool a3_2] 32 (0, 0))) ∧ Aside0 (wc.heap[gb333]? = some (.cells #[.string t329, .string t330, .bool t331] 32 (0, 0))) ∧ Aside0 (wc.heap[gb347]? = some (.cells #[.string t343, .string t344, .bool t345] 32 (0, 0))) ∧ Aside0 (Below w.heap.size w wc))
          case first =>
            have H := HC74.out
            clear HC74
            by_cases c81 : t357 = 0
            · rw [if_pos c81] at H
              have c81b0 : (t357 == 0) = true := beq_iff_eq.mpr c81
              have c81b1 : (t357 != 0) = false := bne_eq_false_iff_eq.mpr c81
              clear c81
              (first | rw [c81b0] | (simp only [i64_w, i32_w]; rw [c81b0]) | skip)
              replace H := Option.bind_eq_some_iff.mp H
              obtain ⟨⟨t358, t359, t360, t361⟩, A820, H⟩ := H
              replace H : (if t361 = true then (if (!(t358.toList == a3_0.toList) || (!(t359.toList == a3_1.toList) || (!(t360 == a3_2)))) = true then (pumicelaw06_NodeBack.j2 kj38 a4 t354 true) else ((node_Size.f a3_0 a3_1 a3_2).bind fun t363 => (pumicelaw06_NodeBack.j2 kj38 a4 t354 (t363 != (wrap64 (6 + (t354.length : Int))))))) else (pumicelaw06_NodeBack.j2 kj38 a4 t354 true)) = some r := H
              have A82 := Aside0.mk A820
              clear A820
              have HC83 := Aside0.mk H
              clear H
              obtain ⟨Ao84, co84, eo84⟩ := Kd.R_slice HO356.out
              subst eo84
              go_upto_region 14 with (first | ((with_reducible refine gate_callee (f := 26) rfl ?_); refine goesL_ (some 86) rfl rfl Try.func26 (by kernel_rfl) rfl #[.slice Ao84 t354.length co84] rfl (by (try simp only [List.map_toArray, List.map_cons, List.map_nil]); first | done | rfl | (simp only [List.length_drop, List.length_take]; rfl)) ?_; (with_reducible refine (node_Unpack.calls _ _ t354 t358 t359 t360 t361 _ ?side1 ?side2 A82.out).mono ?_); (case side1 => repeat (first | exact (Kd.R_reads' HO356.out).2.2 | (with_reducible refine Kd.C_alloc ?_ _) | (with_reducible refine Kd.C_drewN ?_ _) | (with_reducible refine Kd.C_drew ?_))); (case side2 => exact (Kd.R_reads' HO356.out).2.1); rintro e w85 ⟨rfl, hb⟩; refine ⟨_, rfl, ?_⟩; have n0_ := Aside0.mk (Kd.R_below (by (with_reducible repeat (first | apply Kd.R_alloc | apply Kd.R_drewN | apply Kd.R_drew)); exact HO356.out) hb); have n1_ := Aside0.mk (blk_below (g := gb326) (o := .cells #[.int .i64 a0_0, .int .i64 a0_1, .int .i64 a0_2, .int .i64 a0_3, .int .i64 a0_4, .int .i64 a0_5, .int .i64 a0_6] 52 (0, 0)) (by (with_reducible repeat (first | refine blk_drewN ?_ _ | refine blk_drew ?_ | refine blk_alloc ?_ _)); exact BK326.out) hb); have n2_ := Aside0.mk (blk_below (g := gb327) (o := .cells #[.string a2_0, .int .i64 a2_1, .int .i64 a2_2] 59 (0, 0)) (by (with_reducible repeat (first | refine blk_drewN ?_ _ | refine blk_drew ?_ | refine blk_alloc ?_ _)); exact BK327.out) hb); have n3_ := Aside0.mk (blk_below (g := gb328) (o := .cells #[.string a3_0, .string a3_1, .bool a3_2] 32 (0, 0)) (by (with_reducible repeat (first | refine blk_drewN ?_ _ | refine blk_drew ?_ | refine blk_alloc ?_ _)); exact BK328.out) hb); have n4_ := Aside0.mk (blk_below (g := gb333) (o := .cells #[.string t329, .string t330, .bool t331] 32 (0, 0)) (by (with_reducible repeat (first | refine blk_drewN ?_ _ | refine blk_drew ?_ | refine blk_alloc ?_ _)); exact BK333.out) hb); have n5_ := Aside0.mk (blk_below (g := gb347) (o := .cells #[.string t343, .string t344, .bool t345] 32 (0, 0)) (by (with_reducible repeat (first | refine blk_drewN ?_ _ | refine blk_drew ?_ | refine blk_alloc ?_ _)); exact BK347.out) hb); have n6_ := Aside0.mk (below_step (by repeat (first | (with_reducible first | exact HB.out | apply below_alloc | apply pw_below_drewN | apply below_drew1 | refine below_set ?_ GE326.out | refine below_set ?_ GE327.out | refine below_set ?_ GE328.out | refine below_set ?_ GE333.out | refine below_set ?_ GE347.out) | exact HB.out)) hb); clear HO356; clear BK326; clear BK327; clear BK328; clear BK333; clear BK347; clear HB; have HO356 := n0_; have BK326 := n1_; have BK327 := n2_; have BK328 := n3_; have BK333 := n4_; have BK347 := n5_; have HB := n6_; clear n0_ n1_ n2_ n3_ n4_ n5_ n6_; (try clear hb); (try clear hb2); (try clear hk); (try clear hi)) | ((with_reducible refine gate_dst (N := 20) rfl ?_); (try (refine gate_guard (by rfl) ?_; dsimp only)); refine box_event ?hg (N := 20) ?hd (cs := #[.string (⟨#[]⟩ : ByteArray), .string (⟨#[]⟩ : ByteArray), .bool false]) (t := 32) ?hr ?_; (case hd => rfl); (case hg => rfl); (case hr => first | (go_simp; done) | (go_simp; rfl)); intro gb362 hg w86 hbox hb; have n0_ := Aside0.mk (Kd.R_below (by (with_reducible repeat (first | apply Kd.R_alloc | apply Kd.R_drewN | apply Kd.R_drew)); exact HO356.out) hb); have n1_ := Aside0.mk (blk_below (g := gb326) (o := .cells #[.int .i64 a0_0, .int .i64 a0_1, .int .i64 a0_2, .int .i64 a0_3, .int .i64 a0_4, .int .i64 a0_5, .int .i64 a0_6] 52 (0, 0)) (by (with_reducible repeat (first | refine blk_drewN ?_ _ | refine blk_drew ?_ | refine blk_alloc ?_ _)); exact BK326.out) hb); have n2_ := Aside0.mk (blk_below (g := gb327) (o := .cells #[.string a2_0, .int .i64 a2_1, .int .i64 a2_2] 59 (0, 0)) (by (with_reducible repeat (first | refine blk_drewN ?_ _ | refine blk_drew ?_ | refine blk_alloc ?_ _)); exact BK327.out) hb); have n3_ := Aside0.mk (blk_below (g := gb328) (o := .cells #[.string a3_0, .string a3_1, .bool a3_2] 32 (0, 0)) (by (with_reducible repeat (first | refine blk_drewN ?_ _ | refine blk_drew ?_ | refine blk_alloc ?_ _)); exact BK328.out) hb); have n4_ := Aside0.mk (blk_below (g := gb333) (o := .cells #[.string t329, .string t330, .bool t331] 32 (0, 0)) (by (with_reducible repeat (first | refine blk_drewN ?_ _ | refine blk_drew ?_ | refine blk_alloc ?_ _)); exact BK333.out) hb); have n5_ := Aside0.mk (blk_below (g := gb347) (o := .cells #[.string t343, .string t344, .bool t345] 32 (0, 0)) (by (with_reducible repeat (first | refine blk_drewN ?_ _ | refine blk_drew ?_ | refine blk_alloc ?_ _)); exact BK347.out) hb); have n6_ := Aside0.mk (below_step (by repeat (first | (with_reducible first | exact HB.out | apply below_alloc | apply pw_below_drewN | apply below_drew1 | refine below_set ?_ GE326.out | refine below_set ?_ GE327.out | refine below_set ?_ GE328.out | refine below_set ?_ GE333.out | refine below_set ?_ GE347.out) | exact HB.out)) hb); have n7_ := Aside0.mk (hbox); have n8_ := Aside0.mk ((by rw [hg]; exact (below_size (by repeat (first | (with_reducible first | exact HB.out | apply below_alloc | apply pw_below_drewN | apply below_drew1 | refine below_set ?_ GE326.out | refine below_set ?_ GE327.out | refine below_set ?_ GE328.out | refine below_set ?_ GE333.out | refine below_set ?_ GE347.out) | exact HB.out))) : w.heap.size ≤ gb362)); have n9_ := Aside0.mk ((by rw [hg]; exact (below_size (by repeat (first | (with_reducible first | exact HB.out | apply below_alloc | apply pw_below_drewN | apply below_drew1 | refine below_set ?_ GE326.out | refine below_set ?_ GE327.out | refine below_set ?_ GE328.out | refine below_set ?_ GE333.out | refine below_set ?_ GE347.out) | exact HB.out))) : w.heap.size ≤ gb362)); have n10_ := Aside0.mk ((by rw [hg]; exact Nat.ne_of_lt (blk_lt (g := gb326) (o := .cells #[.int .i64 a0_0, .int .i64 a0_1, .int .i64 a0_2, .int .i64 a0_3, .int .i64 a0_4, .int .i64 a0_5, .int .i64 a0_6] 52 (0, 0)) (by (with_reducible repeat (first | refine blk_drewN ?_ _ | refine blk_drew ?_ | refine blk_alloc ?_ _)); exact BK326.out)) : gb326 ≠ gb362)); have n11_ := Aside0.mk ((by rw [hg]; exact Nat.ne_of_gt (blk_lt (g := gb326) (o := .cells #[.int .i64 a0_0, .int .i64 a0_1, .int .i64 a0_2, .int .i64 a0_3, .int .i64 a0_4, .int .i64 a0_5, .int .i64 a0_6] 52 (0, 0)) (by (with_reducible repeat (first | refine blk_drewN ?_ _ | refine blk_drew ?_ | refine blk_alloc ?_ _)); exact BK326.out)) : gb362 ≠ gb326)); have n12_ := Aside0.mk ((by rw [hg]; exact Nat.ne_of_lt (blk_lt (g := gb327) (o := .cells #[.string a2_0, .int .i64 a2_1, .int .i64 a2_2] 59 (0, 0)) (by (with_reducible repeat (first | refine blk_drewN ?_ _ | refine blk_drew ?_ | refine blk_alloc ?_ _)); exact BK327.out)) : gb327 ≠ gb362)); have n13_ := Aside0.mk ((by rw [hg]; exact Nat.ne_of_gt (blk_lt (g := gb327) (o := .cells #[.string a2_0, .int .i64 a2_1, .int .i64 a2_2] 59 (0, 0)) (by (with_reducible repeat (first | refine blk_drewN ?_ _ | refine blk_drew ?_ | refine blk_alloc ?_ _)); exact BK327.out)) : gb362 ≠ gb327)); have n14_ := Aside0.mk ((by rw [hg]; exact Nat.ne_of_lt (blk_lt (g := gb328) (o := .cells #[.string a3_0, .string a3_1, .bool a3_2] 32 (0, 0)) (by (with_reducible repeat (first | refine blk_drewN ?_ _ | refine blk_drew ?_ | refine blk_alloc ?_ _)); exact BK328.out)) : gb328 ≠ gb362)); have n15_ := Aside0.mk ((by rw [hg]; exact Nat.ne_of_gt (blk_lt (g := gb328) (o := .cells #[.string a3_0, .string a3_1, .bool a3_2] 32 (0, 0)) (by (with_reducible repeat (first | refine blk_drewN ?_ _ | refine blk_drew ?_ | refine blk_alloc ?_ _)); exact BK328.out)) : gb362 ≠ gb328)); have n16_ := Aside0.mk ((by rw [hg]; exact Nat.ne_of_lt (blk_lt (g := gb333) (o := .cells #[.string t329, .string t330, .bool t331] 32 (0, 0)) (by (with_reducible repeat (first | refine blk_drewN ?_ _ | refine blk_drew ?_ | refine blk_alloc ?_ _)); exact BK333.out)) : gb333 ≠ gb362)); have n17_ := Aside0.mk ((by rw [hg]; exact Nat.ne_of_gt (blk_lt (g := gb333) (o := .cells #[.string t329, .string t330, .bool t331] 32 (0, 0)) (by (with_reducible repeat (first | refine blk_drewN ?_ _ | refine blk_drew ?_ | refine blk_alloc ?_ _)); exact BK333.out)) : gb362 ≠ gb333)); have n18_ := Aside0.mk ((by rw [hg]; exact Nat.ne_of_lt (blk_lt (g := gb347) (o := .cells #[.string t343, .string t344, .bool t345] 32 (0, 0)) (by (with_reducible repeat (first | refine blk_drewN ?_ _ | refine blk_drew ?_ | refine blk_alloc ?_ _)); exact BK347.out)) : gb347 ≠ gb362)); have n19_ := Aside0.mk ((by rw [hg]; exact Nat.ne_of_gt (blk_lt (g := gb347) (o := .cells #[.string t343, .string t344, .bool t345] 32 (0, 0)) (by (with_reducible repeat (first | refine blk_drewN ?_ _ | refine blk_drew ?_ | refine blk_alloc ?_ _)); exact BK347.out)) : gb362 ≠ gb347)); clear HO356; clear BK326; clear BK327; clear BK328; clear BK333; clear BK347; clear HB; have HO356 := n0_; have BK326 := n1_; have BK327 := n2_; have BK328 := n3_; have BK333 := n4_; have BK347 := n5_; have HB := n6_; have BK362 := n7_; have GW362 := n8_; have GE362 := n9_; have NB326_362 := n10_; have NB362_326 := n11_; have NB327_362 := n12_; have NB362_327 := n13_; have NB328_362 := n14_; have NB362_328 := n15_; have NB333_362 := n16_; have NB362_333 := n17_; have NB347_362 := n18_; have NB362_347 := n19_; clear n0_ n1_ n2_ n3_ n4_ n5_ n6_ n7_ n8_ n9_ n10_ n11_ n12_ n13_ n14_ n15_ n16_ n17_ n18_ n19_; clear hb hbox hg; have hnb87 := NB362_326.out; have hnc87 := NB326_362.out; have hnb88 := NB362_327.out; have hnc88 := NB327_362.out; have hnb89 := NB362_328.out; have hnc89 := NB328_362.out; have hnb90 := NB362_333.out; have hnc90 := NB333_362.out; have hnb91 := NB362_347.out; have hnc91 := NB347_362.out; have hcz92_0 : w86.cell? ⟨gb362, 0, none⟩ = some (.string (⟨#[]⟩ : ByteArray)) := (blk_cell BK362.out 0).trans rfl; have hcz92_1 : w86.cell? ⟨gb362, 1, none⟩ = some (.string (⟨#[]⟩ : ByteArray)) := (blk_cell BK362.out 1).trans rfl; have hcz92_2 : w86.cell? ⟨gb362, 2, none⟩ = some (.bool false) := (blk_cell BK362.out 2).trans rfl; have hfz92_0 := blk_frozen BK362.out 0; have hfz92_1 := blk_frozen BK362.out 1; have hfz92_2 := blk_frozen BK362.out 2))
              (try simp only [Act.put, List.setIfInBounds_toArray, List.set_cons_zero, List.set_cons_succ])
              go_cut [103] (fun v103 wc => ∃ (kq : Nat) (x103_82 : Bool), v103 = .bool x103_82 ∧ Aside0 (pumicelaw06_NodeBack.j2 kq a4 t354 x103_82 = some r) ∧ Aside0 (kq ≤ kj38) ∧ Aside0 (Kd.R (Kd.int .u8) 5 wc w.heap.size (fun _ => True) (.slice Ao84 t354.length co84) t354) ∧ Aside0 (wc.heap[gb326]? = some (.cells #[.int .i64 a0_0, .int .i64 a0_1, .int .i64 a0_2, .int .i64 a0_3, .int .i64 a0_4, .int .i64 a0_5, .int .i64 a0_6] 52 (0, 0))) ∧ Aside0 (wc.heap[gb327]? = some (.cells #[.string a2_0, .int .i64 a2_1, .int .i64 a2_2] 59 (0, 0))) ∧ Aside0 (wc.heap[gb328]? = some (.cells #[.string a3_0, .string a3_1, .bool a3_2] 32 (0, 0))) ∧ Aside0 (wc.heap[gb333]? = some (.cells #[.string t329, .string t330, .bool t331] 32 (0, 0))) ∧ Aside0 (wc.heap[gb347]? = some (.cells #[.string t343, .string t344, .bool t345] 32 (0, 0))) ∧ Aside0 (wc.heap[gb362]? = some (.cells #[.string t358, .string t359, .bool t360] 32 (0, 0))) ∧ Aside0 (Below w.heap.size w wc))
              case first =>
                have H := HC83.out
                clear HC83
                by_cases c93 : t361 = true
                · subst c93
                  have H1 : (if (!(t358.toList == a3_0.toList) || (!(t359.toList == a3_1.toList) || (!(t360 == a3_2)))) = true then (pumicelaw06_NodeBack.j2 kj38 a4 t354 true) else ((node_Size.f a3_0 a3_1 a3_2).bind fun t363 => (pumicelaw06_NodeBack.j2 kj38 a4 t354 (t363 != (wrap64 (6 + (t354.length : Int))))))) = some r := by rw [if_pos rfl] at H; exact H
                  clear H
                  have H := H1
                  clear H1
                  by_cases c94 : (!(t358.toList == a3_0.toList) || (!(t359.toList == a3_1.toList) || (!(t360 == a3_2)))) = true
                  · rw [if_pos c94] at H
                    have c94b0 : (!(t358.toList == a3_0.toList) || (!(t359.toList == a3_1.toList) || (!(t360 == a3_2)))) = true := c94
                    clear c94
                    (first | rw [c94b0] | (simp only [i64_w, i32_w]; rw [c94b0]) | skip)
                    have H' := Aside0.mk H
                    clear H
                    have hnb95 := NB362_326.out
                    have hnc95 := NB326_362.out
                    have hnb96 := NB362_327.out
                    have hnc96 := NB327_362.out
                    have hnb97 := NB362_328.out
                    have hnc97 := NB328_362.out
                    have hnb98 := NB362_333.out
                    have hnc98 := NB333_362.out
                    have hnb99 := NB362_347.out
                    have hnc99 := NB347_362.out
                    have hcz100_0 : w86.cell? ⟨gb362, 0, none⟩ = some (.string (⟨#[]⟩ : ByteArray)) := (blk_cell BK362.out 0).trans rfl
                    have hcz100_1 : w86.cell? ⟨gb362, 1, none⟩ = some (.string (⟨#[]⟩ : ByteArray)) := (blk_cell BK362.out 1).trans rfl
                    have hcz100_2 : w86.cell? ⟨gb362, 2, none⟩ = some (.bool false) := (blk_cell BK362.out 2).trans rfl
                    have hfz100_0 := blk_frozen BK362.out 0
                    have hfz100_1 := blk_frozen BK362.out 1
                    have hfz100_2 := blk_frozen BK362.out 2
                    have hnb101 := NB328_326.out
                    have hnc101 := NB326_328.out
                    have hnb102 := NB328_327.out
                    have hnc102 := NB327_328.out
                    have hnb103 := NB328_333.out
                    have hnc103 := NB333_328.out
                    have hnb104 := NB328_347.out
                    have hnc104 := NB347_328.out
                    have hcz105_0 : w86.cell? ⟨gb328, 0, none⟩ = some (.string a3_0) := (blk_cell BK328.out 0).trans rfl
                    have hcz105_1 : w86.cell? ⟨gb328, 1, none⟩ = some (.string a3_1) := (blk_cell BK328.out 1).trans rfl
                    have hcz105_2 : w86.cell? ⟨gb328, 2, none⟩ = some (.bool a3_2) := (blk_cell BK328.out 2).trans rfl
                    have hfz105_0 := blk_frozen BK328.out 0
                    have hfz105_1 := blk_frozen BK328.out 1
                    have hfz105_2 := blk_frozen BK328.out 2
                    go_wp2
                    go_meet
                    case rel => exact ⟨_, (true), (by first | rfl | (simp; done) | (simp [*]; done) | (simp [wrap64]; done)), H', ⟨by have := HJ6.out; have := HJ38.out; first | omega | exact Nat.le_refl _⟩, ⟨by (with_reducible repeat (first | apply Kd.R_alloc | apply Kd.R_drewN | apply Kd.R_drew)); exact Kd.R_mono (Kd.R_far (p := ⟨gb362, 2, none⟩) (Kd.R_far (p := ⟨gb362, 1, none⟩) (Kd.R_far (p := ⟨gb362, 0, none⟩) (Kd.R_types HO356.out BK362.out (by decide)) (fun _ hk => hk.2) (.string t358)) (fun _ hk => hk.2) (.string t359)) (fun _ hk => hk.2) (.bool t360)) (fun _ hk => trivial)⟩, ⟨by (with_reducible repeat (first | refine blk_drewN ?_ _ | refine blk_drew ?_ | refine blk_alloc ?_ _)); refine blk_far ?_ NB326_362.out _; (with_reducible repeat (first | refine blk_drewN ?_ _ | refine blk_drew ?_ | refine blk_alloc ?_ _)); refine blk_far ?_ NB326_362.out _; (with_reducible repeat (first | refine blk_drewN ?_ _ | refine blk_drew ?_ | refine blk_alloc ?_ _)); refine blk_far ?_ NB326_362.out _; (with_reducible repeat (first | refine blk_drewN ?_ _ | refine blk_drew ?_ | refine blk_alloc ?_ _)); exact BK326.out⟩, ⟨by (with_reducible repeat (first | refine blk_drewN ?_ _ | refine blk_drew ?_ | refine blk_alloc ?_ _)); refine blk_far ?_ NB327_362.out _; (with_reducible repeat (first | refine blk_drewN ?_ _ | refine blk_drew ?_ | refine blk_alloc ?_ _)); refine blk_far ?_ NB327_362.out _; (with_reducible repeat (first | refine blk_drewN ?_ _ | refine blk_drew ?_ | refine blk_alloc ?_ _)); refine blk_far ?_ NB327_362.out _; (with_reducible repeat (first | refine blk_drewN ?_ _ | refine blk_drew ?_ | refine blk_alloc ?_ _)); exact BK327.out⟩, ⟨by (with_reducible repeat (first | refine blk_drewN ?_ _ | refine blk_drew ?_ | refine blk_alloc ?_ _)); refine blk_far ?_ NB328_362.out _; (with_reducible repeat (first | refine blk_drewN ?_ _ | refine blk_drew ?_ | refine blk_alloc ?_ _)); refine blk_far ?_ NB328_362.out _; (with_reducible repeat (first | refine blk_drewN ?_ _ | refine blk_drew ?_ | refine blk_alloc ?_ _)); refine blk_far ?_ NB328_362.out _; (with_reducible repeat (first | refine blk_drewN ?_ _ | refine blk_drew ?_ | refine blk_alloc ?_ _)); exact BK328.out⟩, ⟨by (with_reducible repeat (first | refine blk_drewN ?_ _ | refine blk_drew ?_ | refine blk_alloc ?_ _)); refine blk_far ?_ NB333_362.out _; (with_reducible repeat (first | refine blk_drewN ?_ _ | refine blk_drew ?_ | refine blk_alloc ?_ _)); refine blk_far ?_ NB333_362.out _; (with_reducible repeat (first | refine blk_drewN ?_ _ | refine blk_drew ?_ | refine blk_alloc ?_ _)); refine blk_far ?_ NB333_362.out _; (with_reducible repeat (first | refine blk_drewN ?_ _ | refine blk_drew ?_ | refine blk_alloc ?_ _)); exact BK333.out⟩, ⟨by (with_reducible repeat (first | refine blk_drewN ?_ _ | refine blk_drew ?_ | refine blk_alloc ?_ _)); refine blk_far ?_ NB347_362.out _; (with_reducible repeat (first | refine blk_drewN ?_ _ | refine blk_drew ?_ | refine blk_alloc ?_ _)); refine blk_far ?_ NB347_362.out _; (with_reducible repeat (first | refine blk_drewN ?_ _ | refine blk_drew ?_ | refine blk_alloc ?_ _)); refine blk_far ?_ NB347_362.out _; (with_reducible repeat (first | refine blk_drewN ?_ _ | refine blk_drew ?_ | refine blk_alloc ?_ _)); exact BK347.out⟩, ⟨by (with_reducible repeat (first | refine blk_drewN ?_ _ | refine blk_drew ?_ | refine blk_alloc ?_ _)); refine blk_put (cs := #[.string t358, .string t359, .bool false]) ?_ 2 _ rfl; (with_reducible repeat (first | refine blk_drewN ?_ _ | refine blk_drew ?_ | refine blk_alloc ?_ _)); refine blk_put (cs := #[.string t358, .string (⟨#[]⟩ : ByteArray), .bool false]) ?_ 1 _ rfl; (with_reducible repeat (first | refine blk_drewN ?_ _ | refine blk_drew ?_ | refine blk_alloc ?_ _)); refine blk_put (cs := #[.string (⟨#[]⟩ : ByteArray), .string (⟨#[]⟩ : ByteArray), .bool false]) ?_ 0 _ rfl; (with_reducible repeat (first | refine blk_drewN ?_ _ | refine blk_drew ?_ | refine blk_alloc ?_ _)); exact BK362.out⟩, ⟨by repeat (first | (with_reducible first | exact HB.out | apply below_alloc | apply pw_below_drewN | apply below_drew1 | refine below_set ?_ GE326.out | refine below_set ?_ GE327.out | refine below_set ?_ GE328.out | refine below_set ?_ GE333.out | refine below_set ?_ GE347.out | refine below_set ?_ GE362.out) | exact HB.out)⟩⟩
                  · rw [if_neg c94] at H
                    have c94b0 : (!(t358.toList == a3_0.toList) || (!(t359.toList == a3_1.toList) || (!(t360 == a3_2)))) = false := by simpa using c94
                    clear c94
                    (first | rw [c94b0] | (simp only [i64_w, i32_w]; rw [c94b0]) | skip)
                    replace H := Option.bind_eq_some_iff.mp H
                    obtain ⟨t363, A1060, H⟩ := H
                    replace H : (pumicelaw06_NodeBack.j2 kj38 a4 t354 (t363 != (wrap64 (6 + (t354.length : Int))))) = some r := H
                    have A106 := Aside0.mk A1060
                    clear A1060
                    have H' := Aside0.mk H
                    clear H
                    have hnb107 := NB362_326.out
                    have hnc107 := NB326_362.out
                    have hnb108 := NB362_327.out
                    have hnc108 := NB327_362.out
                    have hnb109 := NB362_328.out
                    have hnc109 := NB328_362.out
                    have hnb110 := NB362_333.out
                    have hnc110 := NB333_362.out
                    have hnb111 := NB362_347.out
                    have hnc111 := NB347_362.out
                    have hcz112_0 : w86.cell? ⟨gb362, 0, none⟩ = some (.string (⟨#[]⟩ : ByteArray)) := (blk_cell BK362.out 0).trans rfl
                    have hcz112_1 : w86.cell? ⟨gb362, 1, none⟩ = some (.string (⟨#[]⟩ : ByteArray)) := (blk_cell BK362.out 1).trans rfl
                    have hcz112_2 : w86.cell? ⟨gb362, 2, none⟩ = some (.bool false) := (blk_cell BK362.out 2).trans rfl
                    have hfz112_0 := blk_frozen BK362.out 0
                    have hfz112_1 := blk_frozen BK362.out 1
                    have hfz112_2 := blk_frozen BK362.out 2
                    have hnb113 := NB328_326.out
                    have hnc113 := NB326_328.out
                    have hnb114 := NB328_327.out
                    have hnc114 := NB327_328.out
                    have hnb115 := NB328_333.out
                    have hnc115 := NB333_328.out
                    have hnb116 := NB328_347.out
                    have hnc116 := NB347_328.out
                    have hcz117_0 : w86.cell? ⟨gb328, 0, none⟩ = some (.string a3_0) := (blk_cell BK328.out 0).trans rfl
                    have hcz117_1 : w86.cell? ⟨gb328, 1, none⟩ = some (.string a3_1) := (blk_cell BK328.out 1).trans rfl
                    have hcz117_2 : w86.cell? ⟨gb328, 2, none⟩ = some (.bool a3_2) := (blk_cell BK328.out 2).trans rfl
                    have hfz117_0 := blk_frozen BK328.out 0
                    have hfz117_1 := blk_frozen BK328.out 1
                    have hfz117_2 := blk_frozen BK328.out 2
                    go_wp2_with (first | (go_at_call 24; (with_reducible refine (node_Size.calls a3_0 a3_1 a3_2 t363 _ A106.out).mono ?_); rintro e w118 ⟨rfl, hb⟩; have n0_ := Aside0.mk (Kd.R_below (by (with_reducible repeat (first | apply Kd.R_alloc | apply Kd.R_drewN | apply Kd.R_drew)); exact (Kd.R_mono (Kd.R_far (p := ⟨gb362, 2, none⟩) (Kd.R_far (p := ⟨gb362, 1, none⟩) (Kd.R_far (p := ⟨gb362, 0, none⟩) (Kd.R_types HO356.out BK362.out (by decide)) (fun _ hk => hk.2) (.string t358)) (fun _ hk => hk.2) (.string t359)) (fun _ hk => hk.2) (.bool t360)) (fun _ h_ => h_.1))) hb); have n1_ := Aside0.mk (blk_below (g := gb326) (o := .cells #[.int .i64 a0_0, .int .i64 a0_1, .int .i64 a0_2, .int .i64 a0_3, .int .i64 a0_4, .int .i64 a0_5, .int .i64 a0_6] 52 (0, 0)) (by (with_reducible repeat (first | refine blk_drewN ?_ _ | refine blk_drew ?_ | refine blk_alloc ?_ _)); refine blk_far ?_ NB326_362.out _; (with_reducible repeat (first | refine blk_drewN ?_ _ | refine blk_drew ?_ | refine blk_alloc ?_ _)); refine blk_far ?_ NB326_362.out _; (with_reducible repeat (first | refine blk_drewN ?_ _ | refine blk_drew ?_ | refine blk_alloc ?_ _)); refine blk_far ?_ NB326_362.out _; (with_reducible repeat (first | refine blk_drewN ?_ _ | refine blk_drew ?_ | refine blk_alloc ?_ _)); exact BK326.out) hb); have n2_ := Aside0.mk (blk_below (g := gb327) (o := .cells #[.string a2_0, .int .i64 a2_1, .int .i64 a2_2] 59 (0, 0)) (by (with_reducible repeat (first | refine blk_drewN ?_ _ | refine blk_drew ?_ | refine blk_alloc ?_ _)); refine blk_far ?_ NB327_362.out _; (with_reducible repeat (first | refine blk_drewN ?_ _ | refine blk_drew ?_ | refine blk_alloc ?_ _)); refine blk_far ?_ NB327_362.out _; (with_reducible repeat (first | refine blk_drewN ?_ _ | refine blk_drew ?_ | refine blk_alloc ?_ _)); refine blk_far ?_ NB327_362.out _; (with_reducible repeat (first | refine blk_drewN ?_ _ | refine blk_drew ?_ | refine blk_alloc ?_ _)); exact BK327.out) hb); have n3_ := Aside0.mk (blk_below (g := gb328) (o := .cells #[.string a3_0, .string a3_1, .bool a3_2] 32 (0, 0)) (by (with_reducible repeat (first | refine blk_drewN ?_ _ | refine blk_drew ?_ | refine blk_alloc ?_ _)); refine blk_far ?_ NB328_362.out _; (with_reducible repeat (first | refine blk_drewN ?_ _ | refine blk_drew ?_ | refine blk_alloc ?_ _)); refine blk_far ?_ NB328_362.out _; (with_reducible repeat (first | refine blk_drewN ?_ _ | refine blk_drew ?_ | refine blk_alloc ?_ _)); refine blk_far ?_ NB328_362.out _; (with_reducible repeat (first | refine blk_drewN ?_ _ | refine blk_drew ?_ | refine blk_alloc ?_ _)); exact BK328.out) hb); have n4_ := Aside0.mk (blk_below (g := gb333) (o := .cells #[.string t329, .string t330, .bool t331] 32 (0, 0)) (by (with_reducible repeat (first | refine blk_drewN ?_ _ | refine blk_drew ?_ | refine blk_alloc ?_ _)); refine blk_far ?_ NB333_362.out _; (with_reducible repeat (first | refine blk_drewN ?_ _ | refine blk_drew ?_ | refine blk_alloc ?_ _)); refine blk_far ?_ NB333_362.out _; (with_reducible repeat (first | refine blk_drewN ?_ _ | refine blk_drew ?_ | refine blk_alloc ?_ _)); refine blk_far ?_ NB333_362.out _; (with_reducible repeat (first | refine blk_drewN ?_ _ | refine blk_drew ?_ | refine blk_alloc ?_ _)); exact BK333.out) hb); have n5_ := Aside0.mk (blk_below (g := gb347) (o := .cells #[.string t343, .string t344, .bool t345] 32 (0, 0)) (by (with_reducible repeat (first | refine blk_drewN ?_ _ | refine blk_drew ?_ | refine blk_alloc ?_ _)); refine blk_far ?_ NB347_362.out _; (with_reducible repeat (first | refine blk_drewN ?_ _ | refine blk_drew ?_ | refine blk_alloc ?_ _)); refine blk_far ?_ NB347_362.out _; (with_reducible repeat (first | refine blk_drewN ?_ _ | refine blk_drew ?_ | refine blk_alloc ?_ _)); refine blk_far ?_ NB347_362.out _; (with_reducible repeat (first | refine blk_drewN ?_ _ | refine blk_drew ?_ | refine blk_alloc ?_ _)); exact BK347.out) hb); have n6_ := Aside0.mk (blk_below (g := gb362) (o := .cells #[.string t358, .string t359, .bool t360] 32 (0, 0)) (by (with_reducible repeat (first | refine blk_drewN ?_ _ | refine blk_drew ?_ | refine blk_alloc ?_ _)); refine blk_put (cs := #[.string t358, .string t359, .bool false]) ?_ 2 _ rfl; (with_reducible repeat (first | refine blk_drewN ?_ _ | refine blk_drew ?_ | refine blk_alloc ?_ _)); refine blk_put (cs := #[.string t358, .string (⟨#[]⟩ : ByteArray), .bool false]) ?_ 1 _ rfl; (with_reducible repeat (first | refine blk_drewN ?_ _ | refine blk_drew ?_ | refine blk_alloc ?_ _)); refine blk_put (cs := #[.string (⟨#[]⟩ : ByteArray), .string (⟨#[]⟩ : ByteArray), .bool false]) ?_ 0 _ rfl; (with_reducible repeat (first | refine blk_drewN ?_ _ | refine blk_drew ?_ | refine blk_alloc ?_ _)); exact BK362.out) hb); have n7_ := Aside0.mk (below_step (by repeat (first | (with_reducible first | exact HB.out | apply below_alloc | apply pw_below_drewN | apply below_drew1 | refine below_set ?_ GE326.out | refine below_set ?_ GE327.out | refine below_set ?_ GE328.out | refine below_set ?_ GE333.out | refine below_set ?_ GE347.out | refine below_set ?_ GE362.out) | exact HB.out)) hb); clear HO356; clear BK326; clear BK327; clear BK328; clear BK333; clear BK347; clear BK362; clear HB; have HO356 := n0_; have BK326 := n1_; have BK327 := n2_; have BK328 := n3_; have BK333 := n4_; have BK347 := n5_; have BK362 := n6_; have HB := n7_; clear n0_ n1_ n2_ n3_ n4_ n5_ n6_ n7_; (try clear hb); (try clear hb2); (try clear hk); (try clear hi)))
                    go_meet
                    case rel => exact ⟨_, ((t363 != (wrap64 (6 + (t354.length : Int))))), (by first | rfl | (simp; done) | (simp [*]; done) | (simp [wrap64]; done)), H', ⟨by have := HJ6.out; have := HJ38.out; first | omega | exact Nat.le_refl _⟩, ⟨by (with_reducible repeat (first | apply Kd.R_alloc | apply Kd.R_drewN | apply Kd.R_drew)); exact HO356.out⟩, ⟨by (with_reducible repeat (first | refine blk_drewN ?_ _ | refine blk_drew ?_ | refine blk_alloc ?_ _)); exact BK326.out⟩, ⟨by (with_reducible repeat (first | refine blk_drewN ?_ _ | refine blk_drew ?_ | refine blk_alloc ?_ _)); exact BK327.out⟩, ⟨by (with_reducible repeat (first | refine blk_drewN ?_ _ | refine blk_drew ?_ | refine blk_alloc ?_ _)); exact BK328.out⟩, ⟨by (with_reducible repeat (first | refine blk_drewN ?_ _ | refine blk_drew ?_ | refine blk_alloc ?_ _)); exact BK333.out⟩, ⟨by (with_reducible repeat (first | refine blk_drewN ?_ _ | refine blk_drew ?_ | refine blk_alloc ?_ _)); exact BK347.out⟩, ⟨by (with_reducible repeat (first | refine blk_drewN ?_ _ | refine blk_drew ?_ | refine blk_alloc ?_ _)); exact BK362.out⟩, ⟨by repeat (first | (with_reducible first | exact HB.out | apply below_alloc | apply pw_below_drewN | apply below_drew1 | refine below_set ?_ GE326.out | refine below_set ?_ GE327.out | refine below_set ?_ GE328.out | refine below_set ?_ GE333.out | refine below_set ?_ GE347.out | refine below_set ?_ GE362.out) | exact HB.out)⟩⟩
                · replace c93 := Bool.eq_false_iff.mpr c93
                  subst c93
                  have H1 : (pumicelaw06_NodeBack.j2 kj38 a4 t354 true) = some r := by rw [if_neg (show ¬ (false = true) by decide)] at H; exact H
                  clear H
                  have H := H1
                  clear H1
                  have H' := Aside0.mk H
                  clear H
                  go_wp2
                  go_meet
                  case rel => exact ⟨_, (true), (by first | rfl | (simp; done) | (simp [*]; done) | (simp [wrap64]; done)), H', ⟨by have := HJ6.out; have := HJ38.out; first | omega | exact Nat.le_refl _⟩, ⟨by (with_reducible repeat (first | apply Kd.R_alloc | apply Kd.R_drewN | apply Kd.R_drew)); exact Kd.R_mono (Kd.R_far (p := ⟨gb362, 2, none⟩) (Kd.R_far (p := ⟨gb362, 1, none⟩) (Kd.R_far (p := ⟨gb362, 0, none⟩) (Kd.R_types HO356.out BK362.out (by decide)) (fun _ hk => hk.2) (.string t358)) (fun _ hk => hk.2) (.string t359)) (fun _ hk => hk.2) (.bool t360)) (fun _ hk => trivial)⟩, ⟨by (with_reducible repeat (first | refine blk_drewN ?_ _ | refine blk_drew ?_ | refine blk_alloc ?_ _)); refine blk_far ?_ NB326_362.out _; (with_reducible repeat (first | refine blk_drewN ?_ _ | refine blk_drew ?_ | refine blk_alloc ?_ _)); refine blk_far ?_ NB326_362.out _; (with_reducible repeat (first | refine blk_drewN ?_ _ | refine blk_drew ?_ | refine blk_alloc ?_ _)); refine blk_far ?_ NB326_362.out _; (with_reducible repeat (first | refine blk_drewN ?_ _ | refine blk_drew ?_ | refine blk_alloc ?_ _)); exact BK326.out⟩, ⟨by (with_reducible repeat (first | refine blk_drewN ?_ _ | refine blk_drew ?_ | refine blk_alloc ?_ _)); refine blk_far ?_ NB327_362.out _; (with_reducible repeat (first | refine blk_drewN ?_ _ | refine blk_drew ?_ | refine blk_alloc ?_ _)); refine blk_far ?_ NB327_362.out _; (with_reducible repeat (first | refine blk_drewN ?_ _ | refine blk_drew ?_ | refine blk_alloc ?_ _)); refine blk_far ?_ NB327_362.out _; (with_reducible repeat (first | refine blk_drewN ?_ _ | refine blk_drew ?_ | refine blk_alloc ?_ _)); exact BK327.out⟩, ⟨by (with_reducible repeat (first | refine blk_drewN ?_ _ | refine blk_drew ?_ | refine blk_alloc ?_ _)); refine blk_far ?_ NB328_362.out _; (with_reducible repeat (first | refine blk_drewN ?_ _ | refine blk_drew ?_ | refine blk_alloc ?_ _)); refine blk_far ?_ NB328_362.out _; (with_reducible repeat (first | refine blk_drewN ?_ _ | refine blk_drew ?_ | refine blk_alloc ?_ _)); refine blk_far ?_ NB328_362.out _; (with_reducible repeat (first | refine blk_drewN ?_ _ | refine blk_drew ?_ | refine blk_alloc ?_ _)); exact BK328.out⟩, ⟨by (with_reducible repeat (first | refine blk_drewN ?_ _ | refine blk_drew ?_ | refine blk_alloc ?_ _)); refine blk_far ?_ NB333_362.out _; (with_reducible repeat (first | refine blk_drewN ?_ _ | refine blk_drew ?_ | refine blk_alloc ?_ _)); refine blk_far ?_ NB333_362.out _; (with_reducible repeat (first | refine blk_drewN ?_ _ | refine blk_drew ?_ | refine blk_alloc ?_ _)); refine blk_far ?_ NB333_362.out _; (with_reducible repeat (first | refine blk_drewN ?_ _ | refine blk_drew ?_ | refine blk_alloc ?_ _)); exact BK333.out⟩, ⟨by (with_reducible repeat (first | refine blk_drewN ?_ _ | refine blk_drew ?_ | refine blk_alloc ?_ _)); refine blk_far ?_ NB347_362.out _; (with_reducible repeat (first | refine blk_drewN ?_ _ | refine blk_drew ?_ | refine blk_alloc ?_ _)); refine blk_far ?_ NB347_362.out _; (with_reducible repeat (first | refine blk_drewN ?_ _ | refine blk_drew ?_ | refine blk_alloc ?_ _)); refine blk_far ?_ NB347_362.out _; (with_reducible repeat (first | refine blk_drewN ?_ _ | refine blk_drew ?_ | refine blk_alloc ?_ _)); exact BK347.out⟩, ⟨by (with_reducible repeat (first | refine blk_drewN ?_ _ | refine blk_drew ?_ | refine blk_alloc ?_ _)); refine blk_put (cs := #[.string t358, .string t359, .bool false]) ?_ 2 _ rfl; (with_reducible repeat (first | refine blk_drewN ?_ _ | refine blk_drew ?_ | refine blk_alloc ?_ _)); refine blk_put (cs := #[.string t358, .string (⟨#[]⟩ : ByteArray), .bool false]) ?_ 1 _ rfl; (with_reducible repeat (first | refine blk_drewN ?_ _ | refine blk_drew ?_ | refine blk_alloc ?_ _)); refine blk_put (cs := #[.string (⟨#[]⟩ : ByteArray), .string (⟨#[]⟩ : ByteArray), .bool false]) ?_ 0 _ rfl; (with_reducible repeat (first | refine blk_drewN ?_ _ | refine blk_drew ?_ | refine blk_alloc ?_ _)); exact BK362.out⟩, ⟨by repeat (first | (with_reducible first | exact HB.out | apply below_alloc | apply pw_below_drewN | apply below_drew1 | refine below_set ?_ GE326.out | refine below_set ?_ GE327.out | refine below_set ?_ GE328.out | refine below_set ?_ GE333.out | refine below_set ?_ GE347.out | refine below_set ?_ GE362.out) | exact HB.out)⟩⟩
              case rest =>
                clear HC83
                try clear c1
                try clear c2
                try clear p2
                try clear c3
                try clear c4
                try clear c5
                try clear c6
                try clear p6
                try clear c7
                try clear c8
                try clear c9
                try clear c10
                try clear c11
                try clear c12
                try clear c16
                try clear c17
                try clear c18
                try clear c20
                try clear c20b0
                try clear c20b1
                try clear c22
                try clear c23
                try clear c23b0
                try clear c24
                try clear c25
                try clear c26
                try clear c30
                try clear c31
                try clear c32
                try clear c33
                try clear c34
                try clear c35
                try clear c36
                try clear c40
                try clear c41
                try clear c42
                try clear c46
                try clear c47
                try clear c48
                try clear c49
                try clear c51
                try clear c51b0
                try clear c51b1
                try clear c53
                try clear c54
                try clear c54b0
                try clear c54b1
                try clear c55
                try clear c55b0
                try clear c56
                try clear c57
                try clear c58
                try clear c59
                try clear c63
                try clear c64
                try clear p64
                try clear c65
                try clear c66
                try clear c67
                try clear c69
                try clear c70
                try clear c71
                try clear c75
                try clear c76
                try clear c77
                try clear c78
                try clear c81
                try clear c81b0
                try clear c81b1
                try clear c87
                try clear c88
                try clear c89
                try clear c90
                try clear c91
                try clear c93
                try clear c94
                try clear c94b0
                try clear c95
                try clear c96
                try clear c97
                try clear c98
                try clear c99
                try clear c101
                try clear c102
                try clear c103
                try clear c104
                try clear c107
                try clear c108
                try clear c109
                try clear c110
                try clear c111
                try clear c113
                try clear c114
                try clear c115
                try clear c116
                try clear hcz100_0
                try clear hcz100_1
                try clear hcz100_2
                try clear hcz105_0
                try clear hcz105_1
                try clear hcz105_2
                try clear hcz112_0
                try clear hcz112_1
                try clear hcz112_2
                try clear hcz117_0
                try clear hcz117_1
                try clear hcz117_2
                try clear hcz13_0
                try clear hcz13_1
                try clear hcz13_2
                try clear hcz13_3
                try clear hcz13_4
                try clear hcz13_5
                try clear hcz13_6
                try clear hcz19_0
                try clear hcz19_1
                try clear hcz19_2
                try clear hcz27_0
                try clear hcz27_1
                try clear hcz27_2
                try clear hcz34_0
                try clear hcz34_1
                try clear hcz34_2
                try clear hcz34_3
                try clear hcz34_4
                try clear hcz34_5
                try clear hcz34_6
                try clear hcz37_0
                try clear hcz37_1
                try clear hcz37_2
                try clear hcz37_3
                try clear hcz37_4
                try clear hcz37_5
                try clear hcz37_6
                try clear hcz43_0
                try clear hcz43_1
                try clear hcz43_2
                try clear hcz50_0
                try clear hcz50_1
                try clear hcz50_2
                try clear hcz60_0
                try clear hcz60_1
                try clear hcz60_2
                try clear hcz68_0
                try clear hcz68_1
                try clear hcz68_2
                try clear hcz72_0
                try clear hcz72_1
                try clear hcz72_2
                try clear hcz79_0
                try clear hcz79_1
                try clear hcz79_2
                try clear hcz92_0
                try clear hcz92_1
                try clear hcz92_2
                try clear hfz100_0
                try clear hfz100_1
                try clear hfz100_2
                try clear hfz105_0
                try clear hfz105_1
                try clear hfz105_2
                try clear hfz112_0
                try clear hfz112_1
                try clear hfz112_2
                try clear hfz117_0
                try clear hfz117_1
                try clear hfz117_2
                try clear hfz13_0
                try clear hfz13_1
                try clear hfz13_2
                try clear hfz13_3
                try clear hfz13_4
                try clear hfz13_5
                try clear hfz13_6
                try clear hfz19_0
                try clear hfz19_1
                try clear hfz19_2
                try clear hfz27_0
                try clear hfz27_1
                try clear hfz27_2
                try clear hfz34_0
                try clear hfz34_1
                try clear hfz34_2
                try clear hfz34_3
                try clear hfz34_4
                try clear hfz34_5
                try clear hfz34_6
                try clear hfz37_0
                try clear hfz37_1
                try clear hfz37_2
                try clear hfz37_3
                try clear hfz37_4
                try clear hfz37_5
                try clear hfz37_6
                try clear hfz43_0
                try clear hfz43_1
                try clear hfz43_2
                try clear hfz50_0
                try clear hfz50_1
                try clear hfz50_2
                try clear hfz60_0
                try clear hfz60_1
                try clear hfz60_2
                try clear hfz68_0
                try clear hfz68_1
                try clear hfz68_2
                try clear hfz72_0
                try clear hfz72_1
                try clear hfz72_2
                try clear hfz79_0
                try clear hfz79_1
                try clear hfz79_2
                try clear hfz92_0
                try clear hfz92_1
                try clear hfz92_2
                try clear p2
                obtain ⟨kq, x103_82, rfl, HA, HJ82, HO_19, BK326, BK327, BK328, BK333, BK347, BK362, HB⟩ := hcut
                cases kq with
                | zero => exact absurd HA.out (by simp [pumicelaw06_NodeBack.j2])
                | succ kj82 =>
                  have H := HA.out
                  clear HA
                  simp only [pumicelaw06_NodeBack.j2] at H
                  by_cases c119 : x103_82 = true
                  · subst c119
                    have H1 : (none) = some r := by rw [if_pos rfl] at H; exact H
                    clear H
                    have H := H1
                    clear H1
                    exact absurd H (by simp)
                  · replace c119 := Bool.eq_false_iff.mpr c119
                    subst c119
                    have H1 : ((node_ParseMark.f t354).bind fun bt364 => (if bt364.2.2 = true then (none) else (pumicelaw06_NodeBack.j3 kj82 a4))) = some r := by rw [if_neg (show ¬ (false = true) by decide)] at H; exact H
                    clear H
                    have H := H1
                    clear H1
                    replace H := Option.bind_eq_some_iff.mp H
                    obtain ⟨⟨t364, t365, t366⟩, A1200, H⟩ := H
                    replace H : (if t366 = true then (none) else (pumicelaw06_NodeBack.j3 kj82 a4)) = some r := H
                    have A120 := Aside0.mk A1200
                    clear A1200
                    by_cases c121 : t366 = true
                    · subst c121
                      have H1 : (none) = some r := by rw [if_pos rfl] at H; exact H
                      clear H
                      have H := H1
                      clear H1
                      exact absurd H (by simp)
                    · replace c121 := Bool.eq_false_iff.mpr c121
                      subst c121
                      have H1 : (pumicelaw06_NodeBack.j3 kj82 a4) = some r := by rw [if_neg (show ¬ (false = true) by decide)] at H; exact H
                      clear H
                      have H := H1
                      clear H1
                      have H' := Aside0.mk H
                      clear H
                      go_wp2_with (first | ((with_reducible refine gate_callee (f := 28) rfl ?_); refine goesL_ (some 106) rfl rfl Try.func28 (by kernel_rfl) rfl #[.slice Ao84 t354.length co84] rfl (by (try simp only [List.map_toArray, List.map_cons, List.map_nil]); first | done | rfl | (simp only [List.length_drop, List.length_take]; rfl)) ?_; (with_reducible refine (node_ParseMark.calls _ _ t354 t364 t365 false _ ?side1 ?side2 A120.out).mono ?_); (case side1 => repeat (first | exact (Kd.R_reads' HO_19.out).2.2 | (with_reducible refine Kd.C_alloc ?_ _) | (with_reducible refine Kd.C_drewN ?_ _) | (with_reducible refine Kd.C_drew ?_))); (case side2 => exact (Kd.R_reads' HO_19.out).2.1); rintro e w122 ⟨rfl, hb⟩; refine ⟨_, rfl, ?_⟩; have n0_ := Aside0.mk (Kd.R_below (by (with_reducible repeat (first | apply Kd.R_alloc | apply Kd.R_drewN | apply Kd.R_drew)); exact HO_19.out) hb); have n1_ := Aside0.mk (blk_below (g := gb326) (o := .cells #[.int .i64 a0_0, .int .i64 a0_1, .int .i64 a0_2, .int .i64 a0_3, .int .i64 a0_4, .int .i64 a0_5, .int .i64 a0_6] 52 (0, 0)) (by (with_reducible repeat (first | refine blk_drewN ?_ _ | refine blk_drew ?_ | refine blk_alloc ?_ _)); exact BK326.out) hb); have n2_ := Aside0.mk (blk_below (g := gb327) (o := .cells #[.string a2_0, .int .i64 a2_1, .int .i64 a2_2] 59 (0, 0)) (by (with_reducible repeat (first | refine blk_drewN ?_ _ | refine blk_drew ?_ | refine blk_alloc ?_ _)); exact BK327.out) hb); have n3_ := Aside0.mk (blk_below (g := gb328) (o := .cells #[.string a3_0, .string a3_1, .bool a3_2] 32 (0, 0)) (by (with_reducible repeat (first | refine blk_drewN ?_ _ | refine blk_drew ?_ | refine blk_alloc ?_ _)); exact BK328.out) hb); have n4_ := Aside0.mk (blk_below (g := gb333) (o := .cells #[.string t329, .string t330, .bool t331] 32 (0, 0)) (by (with_reducible repeat (first | refine blk_drewN ?_ _ | refine blk_drew ?_ | refine blk_alloc ?_ _)); exact BK333.out) hb); have n5_ := Aside0.mk (blk_below (g := gb347) (o := .cells #[.string t343, .string t344, .bool t345] 32 (0, 0)) (by (with_reducible repeat (first | refine blk_drewN ?_ _ | refine blk_drew ?_ | refine blk_alloc ?_ _)); exact BK347.out) hb); have n6_ := Aside0.mk (blk_below (g := gb362) (o := .cells #[.string t358, .string t359, .bool t360] 32 (0, 0)) (by (with_reducible repeat (first | refine blk_drewN ?_ _ | refine blk_drew ?_ | refine blk_alloc ?_ _)); exact BK362.out) hb); have n7_ := Aside0.mk (below_step (by repeat (first | (with_reducible first | exact HB.out | apply below_alloc | apply pw_below_drewN | apply below_drew1 | refine below_set ?_ GE326.out | refine below_set ?_ GE327.out | refine below_set ?_ GE328.out | refine below_set ?_ GE333.out | refine below_set ?_ GE347.out | refine below_set ?_ GE362.out) | exact HB.out)) hb); clear HO_19; clear BK326; clear BK327; clear BK328; clear BK333; clear BK347; clear BK362; clear HB; have HO_19 := n0_; have BK326 := n1_; have BK327 := n2_; have BK328 := n3_; have BK333 := n4_; have BK347 := n5_; have BK362 := n6_; have HB := n7_; clear n0_ n1_ n2_ n3_ n4_ n5_ n6_ n7_; (try clear hb); (try clear hb2); (try clear hk); (try clear hi)))
                      go_meet
                      case rel => exact ⟨_, H', ⟨by have := HJ6.out; have := HJ38.out; have := HJ82.out; first | omega | exact Nat.le_refl _⟩, ⟨by (with_reducible repeat (first | refine blk_drewN ?_ _ | refine blk_drew ?_ | refine blk_alloc ?_ _)); exact BK326.out⟩, ⟨by (with_reducible repeat (first | refine blk_drewN ?_ _ | refine blk_drew ?_ | refine blk_alloc ?_ _)); exact BK327.out⟩, ⟨by (with_reducible repeat (first | refine blk_drewN ?_ _ | refine blk_drew ?_ | refine blk_alloc ?_ _)); exact BK328.out⟩, ⟨by (with_reducible repeat (first | refine blk_drewN ?_ _ | refine blk_drew ?_ | refine blk_alloc ?_ _)); exact BK333.out⟩, ⟨by (with_reducible repeat (first | refine blk_drewN ?_ _ | refine blk_drew ?_ | refine blk_alloc ?_ _)); exact BK347.out⟩, ⟨by repeat (first | (with_reducible first | exact HB.out | apply below_alloc | apply pw_below_drewN | apply below_drew1 | refine below_set ?_ GE326.out | refine below_set ?_ GE327.out | refine below_set ?_ GE328.out | refine below_set ?_ GE333.out | refine below_set ?_ GE347.out | refine below_set ?_ GE362.out) | exact HB.out)⟩⟩
            · rw [if_neg c81] at H
              have c81b0 : (t357 == 0) = false := beq_eq_false_iff_ne.mpr c81
              have c81b1 : (t357 != 0) = true := bne_iff_ne.mpr c81
              (first | rw [c81b0] | (simp only [i64_w, i32_w]; rw [c81b0]) | skip)
              have H' := Aside0.mk H
              clear H
              go_wp2
              go_meet
              case rel => exact ⟨_, H', ⟨by have := HJ6.out; have := HJ38.out; first | omega | exact Nat.le_refl _⟩, ⟨by (with_reducible repeat (first | refine blk_drewN ?_ _ | refine blk_drew ?_ | refine blk_alloc ?_ _)); exact BK326.out⟩, ⟨by (with_reducible repeat (first | refine blk_drewN ?_ _ | refine blk_drew ?_ | refine blk_alloc ?_ _)); exact BK327.out⟩, ⟨by (with_reducible repeat (first | refine blk_drewN ?_ _ | refine blk_drew ?_ | refine blk_alloc ?_ _)); exact BK328.out⟩, ⟨by (with_reducible repeat (first | refine blk_drewN ?_ _ | refine blk_drew ?_ | refine blk_alloc ?_ _)); exact BK333.out⟩, ⟨by (with_reducible repeat (first | refine blk_drewN ?_ _ | refine blk_drew ?_ | refine blk_alloc ?_ _)); exact BK347.out⟩, ⟨by repeat (first | (with_reducible first | exact HB.out | apply below_alloc | apply pw_below_drewN | apply below_drew1 | refine below_set ?_ GE326.out | refine below_set ?_ GE327.out | refine below_set ?_ GE328.out | refine below_set ?_ GE333.out | refine below_set ?_ GE347.out) | exact HB.out)⟩⟩
          case rest =>
            clear HC74
            try clear c1
            try clear c2
            try clear p2
            try clear c3
            try clear c4
            try clear c5
            try clear c6
            try clear p6
            try clear c7
            try clear c8
            try clear c9
            try clear c10
            try clear c11
            try clear c12
            try clear c16
            try clear c17
            try clear c18
            try clear c20
            try clear c20b0
            try clear c20b1
            try clear c22
            try clear c23
            try clear c23b0
            try clear c24
            try clear c25
            try clear c26
            try clear c28
            try clear c30
            try clear c31
            try clear c32
            try clear c33
            try clear c34
            try clear c35
            try clear c36
            try clear c40
            try clear c41
            try clear c42
            try clear c46
            try clear c47
            try clear c48
            try clear c49
            try clear c51
            try clear c51b0
            try clear c51b1
            try clear c53
            try clear c54
            try clear c54b0
            try clear c54b1
            try clear c55
            try clear c55b0
            try clear c56
            try clear c57
            try clear c58
            try clear c59
            try clear c63
            try clear c64
            try clear p64
            try clear c65
            try clear c66
            try clear c67
            try clear c69
            try clear c70
            try clear c71
            try clear c75
            try clear c76
            try clear c77
            try clear c78
            try clear c81
            try clear c81b0
            try clear c81b1
            try clear c87
            try clear c88
            try clear c89
            try clear c90
            try clear c91
            try clear c93
            try clear c94
            try clear c94b0
            try clear c95
            try clear c96
            try clear c97
            try clear c98
            try clear c99
            try clear c101
            try clear c102
            try clear c103
            try clear c104
            try clear c107
            try clear c108
            try clear c109
            try clear c110
            try clear c111
            try clear c113
            try clear c114
            try clear c115
            try clear c116
            try clear c119
            try clear c121
            try clear hcz100_0
            try clear hcz100_1
            try clear hcz100_2
            try clear hcz105_0
            try clear hcz105_1
            try clear hcz105_2
            try clear hcz112_0
            try clear hcz112_1
            try clear hcz112_2
            try clear hcz117_0
            try clear hcz117_1
            try clear hcz117_2
            try clear hcz13_0
            try clear hcz13_1
            try clear hcz13_2
            try clear hcz13_3
            try clear hcz13_4
            try clear hcz13_5
            try clear hcz13_6
            try clear hcz19_0
            try clear hcz19_1
            try clear hcz19_2
            try clear hcz27_0
            try clear hcz27_1
            try clear hcz27_2
            try clear hcz34_0
            try clear hcz34_1
            try clear hcz34_2
            try clear hcz34_3
            try clear hcz34_4
            try clear hcz34_5
            try clear hcz34_6
            try clear hcz37_0
            try clear hcz37_1
            try clear hcz37_2
            try clear hcz37_3
            try clear hcz37_4
            try clear hcz37_5
            try clear hcz37_6
            try clear hcz43_0
            try clear hcz43_1
            try clear hcz43_2
            try clear hcz50_0
            try clear hcz50_1
            try clear hcz50_2
            try clear hcz60_0
            try clear hcz60_1
            try clear hcz60_2
            try clear hcz68_0
            try clear hcz68_1
            try clear hcz68_2
            try clear hcz72_0
            try clear hcz72_1
            try clear hcz72_2
            try clear hcz79_0
            try clear hcz79_1
            try clear hcz79_2
            try clear hcz92_0
            try clear hcz92_1
            try clear hcz92_2
            try clear hfz100_0
            try clear hfz100_1
            try clear hfz100_2
            try clear hfz105_0
            try clear hfz105_1
            try clear hfz105_2
            try clear hfz112_0
            try clear hfz112_1
            try clear hfz112_2
            try clear hfz117_0
            try clear hfz117_1
            try clear hfz117_2
            try clear hfz13_0
            try clear hfz13_1
            try clear hfz13_2
            try clear hfz13_3
            try clear hfz13_4
            try clear hfz13_5
            try clear hfz13_6
            try clear hfz19_0
            try clear hfz19_1
            try clear hfz19_2
            try clear hfz27_0
            try clear hfz27_1
            try clear hfz27_2
            try clear hfz34_0
            try clear hfz34_1
            try clear hfz34_2
            try clear hfz34_3
            try clear hfz34_4
            try clear hfz34_5
            try clear hfz34_6
            try clear hfz37_0
            try clear hfz37_1
            try clear hfz37_2
            try clear hfz37_3
            try clear hfz37_4
            try clear hfz37_5
            try clear hfz37_6
            try clear hfz43_0
            try clear hfz43_1
            try clear hfz43_2
            try clear hfz50_0
            try clear hfz50_1
            try clear hfz50_2
            try clear hfz60_0
            try clear hfz60_1
            try clear hfz60_2
            try clear hfz68_0
            try clear hfz68_1
            try clear hfz68_2
            try clear hfz72_0
            try clear hfz72_1
            try clear hfz72_2
            try clear hfz79_0
            try clear hfz79_1
            try clear hfz79_2
            try clear hfz92_0
            try clear hfz92_1
            try clear hfz92_2
            try clear p2
            try clear p6
            try clear p64
            obtain ⟨kq, HA, HJ73, BK326, BK327, BK328, BK333, BK347, HB⟩ := hcut
            cases kq with
            | zero => exact absurd HA.out (by simp [pumicelaw06_NodeBack.j3])
            | succ kj73 =>
              have H := HA.out
              clear HA
              simp only [pumicelaw06_NodeBack.j3] at H
              replace H := Option.bind_eq_some_iff.mp H
              obtain ⟨⟨t367, t368⟩, A1230, H⟩ := H
              replace H : ((node_ParseMark.f t367).bind fun bt371 => ((node_Unpack.f t367).bind fun bt374 => (if t368 = 0 then (if bt371.2.2 = true then (if bt371.1 = a4 then (if bt371.2.1 = (wrap64 (1 + (wrap64 (Int.tmod a4 16)))) then (if bt374.2.2.2 = true then (none) else ((pumicelaw06_alive.f).bind fun t379 => (some t379))) else (none)) else (none)) else (none)) else (none)))) = some r := H
              have A123 := Aside0.mk A1230
              clear A1230
              replace H := Option.bind_eq_some_iff.mp H
              obtain ⟨⟨t371, t372, t373⟩, A1240, H⟩ := H
              replace H : ((node_Unpack.f t367).bind fun bt374 => (if t368 = 0 then (if t373 = true then (if t371 = a4 then (if t372 = (wrap64 (1 + (wrap64 (Int.tmod a4 16)))) then (if bt374.2.2.2 = true then (none) else ((pumicelaw06_alive.f).bind fun t379 => (some t379))) else (none)) else (none)) else (none)) else (none))) = some r := H
              have A124 := Aside0.mk A1240
              clear A1240
              replace H := Option.bind_eq_some_iff.mp H
              obtain ⟨⟨t374, t375, t376, t377⟩, A1250, H⟩ := H
              replace H : (if t368 = 0 then (if t373 = true then (if t371 = a4 then (if t372 = (wrap64 (1 + (wrap64 (Int.tmod a4 16)))) then (if t377 = true then (none) else ((pumicelaw06_alive.f).bind fun t379 => (some t379))) else (none)) else (none)) else (none)) else (none)) = some r := H
              have A125 := Aside0.mk A1250
              clear A1250
              by_cases c126 : t368 = 0
              · rw [if_pos c126] at H
                have c126b0 : (t368 == 0) = true := beq_iff_eq.mpr c126
                have c126b1 : (t368 != 0) = false := bne_eq_false_iff_eq.mpr c126
                clear c126
                by_cases c127 : t373 = true
                · subst c127
                  have H1 : (if t371 = a4 then (if t372 = (wrap64 (1 + (wrap64 (Int.tmod a4 16)))) then (if t377 = true then (none) else ((pumicelaw06_alive.f).bind fun t379 => (some t379))) else (none)) else (none)) = some r := by rw [if_pos rfl] at H; exact H
                  clear H
                  have H := H1
                  clear H1
                  by_cases c128 : t371 = a4
                  · rw [if_pos c128] at H
                    have c128b0 : (t371 == a4) = true := beq_iff_eq.mpr c128
                    have c128b1 : (t371 != a4) = false := bne_eq_false_iff_eq.mpr c128
                    clear c128
                    by_cases c129 : t372 = (wrap64 (1 + (wrap64 (Int.tmod a4 16))))
                    · rw [if_pos c129] at H
                      have c129b0 : (t372 == (wrap64 (1 + (wrap64 (Int.tmod a4 16))))) = true := beq_iff_eq.mpr c129
                      have c129b1 : (t372 != (wrap64 (1 + (wrap64 (Int.tmod a4 16))))) = false := bne_eq_false_iff_eq.mpr c129
                      clear c129
                      by_cases c130 : t377 = true
                      · subst c130
                        have H1 : (none) = some r := by rw [if_pos rfl] at H; exact H
                        clear H
                        have H := H1
                        clear H1
                        exact absurd H (by simp)
                      · replace c130 := Bool.eq_false_iff.mpr c130
                        subst c130
                        have H1 : ((pumicelaw06_alive.f).bind fun t379 => (some t379)) = some r := by rw [if_neg (show ¬ (false = true) by decide)] at H; exact H
                        clear H
                        have H := H1
                        clear H1
                        replace H := Option.bind_eq_some_iff.mp H
                        obtain ⟨t379, A1310, H⟩ := H
                        replace H : (some t379) = some r := H
                        have A131 := Aside0.mk A1310
                        clear A1310
                        obtain rfl := Option.some.inj H
                        go_wp2_with (first | ((with_reducible refine gate_callee (f := 20) rfl ?_); refine goesL_ (some 118) rfl rfl Try.func20 (by kernel_rfl) rfl #[.int .u64 a4, .int .i64 (wrap64 (1 + (wrap64 (Int.tmod a4 16))))] rfl (by (try simp only [List.map_toArray, List.map_cons, List.map_nil]); first | done | rfl | (simp only [List.length_drop, List.length_take]; rfl)) ?_; (with_reducible refine (node_Mark.calls a4 (wrap64 (1 + (wrap64 (Int.tmod a4 16)))) t367 t368 _ A123.out).mono ?_); rintro e w132 ⟨v369, rfl, ho0, hb⟩; refine ⟨_, rfl, ?_⟩; have n0_ := Aside0.mk (Kd.R_lower ho0 (below_size (by repeat (first | (with_reducible first | exact HB.out | apply below_alloc | apply pw_below_drewN | apply below_drew1 | refine below_set ?_ GE326.out | refine below_set ?_ GE327.out | refine below_set ?_ GE328.out | refine below_set ?_ GE333.out | refine below_set ?_ GE347.out) | exact HB.out)))); have n1_ := Aside0.mk (blk_below (g := gb326) (o := .cells #[.int .i64 a0_0, .int .i64 a0_1, .int .i64 a0_2, .int .i64 a0_3, .int .i64 a0_4, .int .i64 a0_5, .int .i64 a0_6] 52 (0, 0)) (by (with_reducible repeat (first | refine blk_drewN ?_ _ | refine blk_drew ?_ | refine blk_alloc ?_ _)); exact BK326.out) hb); have n2_ := Aside0.mk (blk_below (g := gb327) (o := .cells #[.string a2_0, .int .i64 a2_1, .int .i64 a2_2] 59 (0, 0)) (by (with_reducible repeat (first | refine blk_drewN ?_ _ | refine blk_drew ?_ | refine blk_alloc ?_ _)); exact BK327.out) hb); have n3_ := Aside0.mk (blk_below (g := gb328) (o := .cells #[.string a3_0, .string a3_1, .bool a3_2] 32 (0, 0)) (by (with_reducible repeat (first | refine blk_drewN ?_ _ | refine blk_drew ?_ | refine blk_alloc ?_ _)); exact BK328.out) hb); have n4_ := Aside0.mk (blk_below (g := gb333) (o := .cells #[.string t329, .string t330, .bool t331] 32 (0, 0)) (by (with_reducible repeat (first | refine blk_drewN ?_ _ | refine blk_drew ?_ | refine blk_alloc ?_ _)); exact BK333.out) hb); have n5_ := Aside0.mk (blk_below (g := gb347) (o := .cells #[.string t343, .string t344, .bool t345] 32 (0, 0)) (by (with_reducible repeat (first | refine blk_drewN ?_ _ | refine blk_drew ?_ | refine blk_alloc ?_ _)); exact BK347.out) hb); have n6_ := Aside0.mk (below_step (by repeat (first | (with_reducible first | exact HB.out | apply below_alloc | apply pw_below_drewN | apply below_drew1 | refine below_set ?_ GE326.out | refine below_set ?_ GE327.out | refine below_set ?_ GE328.out | refine below_set ?_ GE333.out | refine below_set ?_ GE347.out) | exact HB.out)) hb); clear BK326; clear BK327; clear BK328; clear BK333; clear BK347; clear HB; have HO370 := n0_; have BK326 := n1_; have BK327 := n2_; have BK328 := n3_; have BK333 := n4_; have BK347 := n5_; have HB := n6_; clear n0_ n1_ n2_ n3_ n4_ n5_ n6_; (try clear hb); (try clear hb2); (try clear hk); (try clear hi); (try clear ho0); obtain ⟨Ao133, co133, eo133⟩ := Kd.R_slice HO370.out; subst eo133) | ((with_reducible refine gate_callee (f := 28) rfl ?_); refine goesL_ (some 123) rfl rfl Try.func28 (by kernel_rfl) rfl #[.slice Ao133 t367.length co133] rfl (by (try simp only [List.map_toArray, List.map_cons, List.map_nil]); first | done | rfl | (simp only [List.length_drop, List.length_take]; rfl)) ?_; (with_reducible refine (node_ParseMark.calls _ _ t367 t371 t372 true _ ?side1 ?side2 A124.out).mono ?_); (case side1 => repeat (first | exact (Kd.R_reads' HO370.out).2.2 | (with_reducible refine Kd.C_alloc ?_ _) | (with_reducible refine Kd.C_drewN ?_ _) | (with_reducible refine Kd.C_drew ?_))); (case side2 => exact (Kd.R_reads' HO370.out).2.1); rintro e w134 ⟨rfl, hb⟩; refine ⟨_, rfl, ?_⟩; have n0_ := Aside0.mk (Kd.R_below (by (with_reducible repeat (first | apply Kd.R_alloc | apply Kd.R_drewN | apply Kd.R_drew)); exact HO370.out) hb); have n1_ := Aside0.mk (blk_below (g := gb326) (o := .cells #[.int .i64 a0_0, .int .i64 a0_1, .int .i64 a0_2, .int .i64 a0_3, .int .i64 a0_4, .int .i64 a0_5, .int .i64 a0_6] 52 (0, 0)) (by (with_reducible repeat (first | refine blk_drewN ?_ _ | refine blk_drew ?_ | refine blk_alloc ?_ _)); exact BK326.out) hb); have n2_ := Aside0.mk (blk_below (g := gb327) (o := .cells #[.string a2_0, .int .i64 a2_1, .int .i64 a2_2] 59 (0, 0)) (by (with_reducible repeat (first | refine blk_drewN ?_ _ | refine blk_drew ?_ | refine blk_alloc ?_ _)); exact BK327.out) hb); have n3_ := Aside0.mk (blk_below (g := gb328) (o := .cells #[.string a3_0, .string a3_1, .bool a3_2] 32 (0, 0)) (by (with_reducible repeat (first | refine blk_drewN ?_ _ | refine blk_drew ?_ | refine blk_alloc ?_ _)); exact BK328.out) hb); have n4_ := Aside0.mk (blk_below (g := gb333) (o := .cells #[.string t329, .string t330, .bool t331] 32 (0, 0)) (by (with_reducible repeat (first | refine blk_drewN ?_ _ | refine blk_drew ?_ | refine blk_alloc ?_ _)); exact BK333.out) hb); have n5_ := Aside0.mk (blk_below (g := gb347) (o := .cells #[.string t343, .string t344, .bool t345] 32 (0, 0)) (by (with_reducible repeat (first | refine blk_drewN ?_ _ | refine blk_drew ?_ | refine blk_alloc ?_ _)); exact BK347.out) hb); have n6_ := Aside0.mk (below_step (by repeat (first | (with_reducible first | exact HB.out | apply below_alloc | apply pw_below_drewN | apply below_drew1 | refine below_set ?_ GE326.out | refine below_set ?_ GE327.out | refine below_set ?_ GE328.out | refine below_set ?_ GE333.out | refine below_set ?_ GE347.out) | exact HB.out)) hb); clear HO370; clear BK326; clear BK327; clear BK328; clear BK333; clear BK347; clear HB; have HO370 := n0_; have BK326 := n1_; have BK327 := n2_; have BK328 := n3_; have BK333 := n4_; have BK347 := n5_; have HB := n6_; clear n0_ n1_ n2_ n3_ n4_ n5_ n6_; (try clear hb); (try clear hb2); (try clear hk); (try clear hi)) | ((with_reducible refine gate_callee (f := 26) rfl ?_); refine goesL_ (some 129) rfl rfl Try.func26 (by kernel_rfl) rfl #[.slice Ao133 t367.length co133] rfl (by (try simp only [List.map_toArray, List.map_cons, List.map_nil]); first | done | rfl | (simp only [List.length_drop, List.length_take]; rfl)) ?_; (with_reducible refine (node_Unpack.calls _ _ t367 t374 t375 t376 false _ ?side1 ?side2 A125.out).mono ?_); (case side1 => repeat (first | exact (Kd.R_reads' HO370.out).2.2 | (with_reducible refine Kd.C_alloc ?_ _) | (with_reducible refine Kd.C_drewN ?_ _) | (with_reducible refine Kd.C_drew ?_))); (case side2 => exact (Kd.R_reads' HO370.out).2.1); rintro e w135 ⟨rfl, hb⟩; refine ⟨_, rfl, ?_⟩; have n0_ := Aside0.mk (Kd.R_below (by (with_reducible repeat (first | apply Kd.R_alloc | apply Kd.R_drewN | apply Kd.R_drew)); exact HO370.out) hb); have n1_ := Aside0.mk (blk_below (g := gb326) (o := .cells #[.int .i64 a0_0, .int .i64 a0_1, .int .i64 a0_2, .int .i64 a0_3, .int .i64 a0_4, .int .i64 a0_5, .int .i64 a0_6] 52 (0, 0)) (by (with_reducible repeat (first | refine blk_drewN ?_ _ | refine blk_drew ?_ | refine blk_alloc ?_ _)); exact BK326.out) hb); have n2_ := Aside0.mk (blk_below (g := gb327) (o := .cells #[.string a2_0, .int .i64 a2_1, .int .i64 a2_2] 59 (0, 0)) (by (with_reducible repeat (first | refine blk_drewN ?_ _ | refine blk_drew ?_ | refine blk_alloc ?_ _)); exact BK327.out) hb); have n3_ := Aside0.mk (blk_below (g := gb328) (o := .cells #[.string a3_0, .string a3_1, .bool a3_2] 32 (0, 0)) (by (with_reducible repeat (first | refine blk_drewN ?_ _ | refine blk_drew ?_ | refine blk_alloc ?_ _)); exact BK328.out) hb); have n4_ := Aside0.mk (blk_below (g := gb333) (o := .cells #[.string t329, .string t330, .bool t331] 32 (0, 0)) (by (with_reducible repeat (first | refine blk_drewN ?_ _ | refine blk_drew ?_ | refine blk_alloc ?_ _)); exact BK333.out) hb); have n5_ := Aside0.mk (blk_below (g := gb347) (o := .cells #[.string t343, .string t344, .bool t345] 32 (0, 0)) (by (with_reducible repeat (first | refine blk_drewN ?_ _ | refine blk_drew ?_ | refine blk_alloc ?_ _)); exact BK347.out) hb); have n6_ := Aside0.mk (below_step (by repeat (first | (with_reducible first | exact HB.out | apply below_alloc | apply pw_below_drewN | apply below_drew1 | refine below_set ?_ GE326.out | refine below_set ?_ GE327.out | refine below_set ?_ GE328.out | refine below_set ?_ GE333.out | refine below_set ?_ GE347.out) | exact HB.out)) hb); clear HO370; clear BK326; clear BK327; clear BK328; clear BK333; clear BK347; clear HB; have HO370 := n0_; have BK326 := n1_; have BK327 := n2_; have BK328 := n3_; have BK333 := n4_; have BK347 := n5_; have HB := n6_; clear n0_ n1_ n2_ n3_ n4_ n5_ n6_; (try clear hb); (try clear hb2); (try clear hk); (try clear hi)) | ((with_reducible refine gate_dst (N := 30) rfl ?_); (try (refine gate_guard (by rfl) ?_; dsimp only)); refine box_event ?hg (N := 30) ?hd (cs := #[.string (⟨#[]⟩ : ByteArray), .string (⟨#[]⟩ : ByteArray), .bool false]) (t := 32) ?hr ?_; (case hd => rfl); (case hg => rfl); (case hr => first | (go_simp; done) | (go_simp; rfl)); intro gb378 hg w136 hbox hb; have n0_ := Aside0.mk (Kd.R_below (by (with_reducible repeat (first | apply Kd.R_alloc | apply Kd.R_drewN | apply Kd.R_drew)); exact HO370.out) hb); have n1_ := Aside0.mk (blk_below (g := gb326) (o := .cells #[.int .i64 a0_0, .int .i64 a0_1, .int .i64 a0_2, .int .i64 a0_3, .int .i64 a0_4, .int .i64 a0_5, .int .i64 a0_6] 52 (0, 0)) (by (with_reducible repeat (first | refine blk_drewN ?_ _ | refine blk_drew ?_ | refine blk_alloc ?_ _)); exact BK326.out) hb); have n2_ := Aside0.mk (blk_below (g := gb327) (o := .cells #[.string a2_0, .int .i64 a2_1, .int .i64 a2_2] 59 (0, 0)) (by (with_reducible repeat (first | refine blk_drewN ?_ _ | refine blk_drew ?_ | refine blk_alloc ?_ _)); exact BK327.out) hb); have n3_ := Aside0.mk (blk_below (g := gb328) (o := .cells #[.string a3_0, .string a3_1, .bool a3_2] 32 (0, 0)) (by (with_reducible repeat (first | refine blk_drewN ?_ _ | refine blk_drew ?_ | refine blk_alloc ?_ _)); exact BK328.out) hb); have n4_ := Aside0.mk (blk_below (g := gb333) (o := .cells #[.string t329, .string t330, .bool t331] 32 (0, 0)) (by (with_reducible repeat (first | refine blk_drewN ?_ _ | refine blk_drew ?_ | refine blk_alloc ?_ _)); exact BK333.out) hb); have n5_ := Aside0.mk (blk_below (g := gb347) (o := .cells #[.string t343, .string t344, .bool t345] 32 (0, 0)) (by (with_reducible repeat (first | refine blk_drewN ?_ _ | refine blk_drew ?_ | refine blk_alloc ?_ _)); exact BK347.out) hb); have n6_ := Aside0.mk (below_step (by repeat (first | (with_reducible first | exact HB.out | apply below_alloc | apply pw_below_drewN | apply below_drew1 | refine below_set ?_ GE326.out | refine below_set ?_ GE327.out | refine below_set ?_ GE328.out | refine below_set ?_ GE333.out | refine below_set ?_ GE347.out) | exact HB.out)) hb); have n7_ := Aside0.mk (hbox); have n8_ := Aside0.mk ((by rw [hg]; exact (below_size (by repeat (first | (with_reducible first | exact HB.out | apply below_alloc | apply pw_below_drewN | apply below_drew1 | refine below_set ?_ GE326.out | refine below_set ?_ GE327.out | refine below_set ?_ GE328.out | refine below_set ?_ GE333.out | refine below_set ?_ GE347.out) | exact HB.out))) : w.heap.size ≤ gb378)); have n9_ := Aside0.mk ((by rw [hg]; exact (below_size (by repeat (first | (with_reducible first | exact HB.out | apply below_alloc | apply pw_below_drewN | apply below_drew1 | refine below_set ?_ GE326.out | refine below_set ?_ GE327.out | refine below_set ?_ GE328.out | refine below_set ?_ GE333.out | refine below_set ?_ GE347.out) | exact HB.out))) : w.heap.size ≤ gb378)); have n10_ := Aside0.mk ((by rw [hg]; exact Nat.ne_of_lt (blk_lt (g := gb326) (o := .cells #[.int .i64 a0_0, .int .i64 a0_1, .int .i64 a0_2, .int .i64 a0_3, .int .i64 a0_4, .int .i64 a0_5, .int .i64 a0_6] 52 (0, 0)) (by (with_reducible repeat (first | refine blk_drewN ?_ _ | refine blk_drew ?_ | refine blk_alloc ?_ _)); exact BK326.out)) : gb326 ≠ gb378)); have n11_ := Aside0.mk ((by rw [hg]; exact Nat.ne_of_gt (blk_lt (g := gb326) (o := .cells #[.int .i64 a0_0, .int .i64 a0_1, .int .i64 a0_2, .int .i64 a0_3, .int .i64 a0_4, .int .i64 a0_5, .int .i64 a0_6] 52 (0, 0)) (by (with_reducible repeat (first | refine blk_drewN ?_ _ | refine blk_drew ?_ | refine blk_alloc ?_ _)); exact BK326.out)) : gb378 ≠ gb326)); have n12_ := Aside0.mk ((by rw [hg]; exact Nat.ne_of_lt (blk_lt (g := gb327) (o := .cells #[.string a2_0, .int .i64 a2_1, .int .i64 a2_2] 59 (0, 0)) (by (with_reducible repeat (first | refine blk_drewN ?_ _ | refine blk_drew ?_ | refine blk_alloc ?_ _)); exact BK327.out)) : gb327 ≠ gb378)); have n13_ := Aside0.mk ((by rw [hg]; exact Nat.ne_of_gt (blk_lt (g := gb327) (o := .cells #[.string a2_0, .int .i64 a2_1, .int .i64 a2_2] 59 (0, 0)) (by (with_reducible repeat (first | refine blk_drewN ?_ _ | refine blk_drew ?_ | refine blk_alloc ?_ _)); exact BK327.out)) : gb378 ≠ gb327)); have n14_ := Aside0.mk ((by rw [hg]; exact Nat.ne_of_lt (blk_lt (g := gb328) (o := .cells #[.string a3_0, .string a3_1, .bool a3_2] 32 (0, 0)) (by (with_reducible repeat (first | refine blk_drewN ?_ _ | refine blk_drew ?_ | refine blk_alloc ?_ _)); exact BK328.out)) : gb328 ≠ gb378)); have n15_ := Aside0.mk ((by rw [hg]; exact Nat.ne_of_gt (blk_lt (g := gb328) (o := .cells #[.string a3_0, .string a3_1, .bool a3_2] 32 (0, 0)) (by (with_reducible repeat (first | refine blk_drewN ?_ _ | refine blk_drew ?_ | refine blk_alloc ?_ _)); exact BK328.out)) : gb378 ≠ gb328)); have n16_ := Aside0.mk ((by rw [hg]; exact Nat.ne_of_lt (blk_lt (g := gb333) (o := .cells #[.string t329, .string t330, .bool t331] 32 (0, 0)) (by (with_reducible repeat (first | refine blk_drewN ?_ _ | refine blk_drew ?_ | refine blk_alloc ?_ _)); exact BK333.out)) : gb333 ≠ gb378)); have n17_ := Aside0.mk ((by rw [hg]; exact Nat.ne_of_gt (blk_lt (g := gb333) (o := .cells #[.string t329, .string t330, .bool t331] 32 (0, 0)) (by (with_reducible repeat (first | refine blk_drewN ?_ _ | refine blk_drew ?_ | refine blk_alloc ?_ _)); exact BK333.out)) : gb378 ≠ gb333)); have n18_ := Aside0.mk ((by rw [hg]; exact Nat.ne_of_lt (blk_lt (g := gb347) (o := .cells #[.string t343, .string t344, .bool t345] 32 (0, 0)) (by (with_reducible repeat (first | refine blk_drewN ?_ _ | refine blk_drew ?_ | refine blk_alloc ?_ _)); exact BK347.out)) : gb347 ≠ gb378)); have n19_ := Aside0.mk ((by rw [hg]; exact Nat.ne_of_gt (blk_lt (g := gb347) (o := .cells #[.string t343, .string t344, .bool t345] 32 (0, 0)) (by (with_reducible repeat (first | refine blk_drewN ?_ _ | refine blk_drew ?_ | refine blk_alloc ?_ _)); exact BK347.out)) : gb378 ≠ gb347)); clear HO370; clear BK326; clear BK327; clear BK328; clear BK333; clear BK347; clear HB; have HO370 := n0_; have BK326 := n1_; have BK327 := n2_; have BK328 := n3_; have BK333 := n4_; have BK347 := n5_; have HB := n6_; have BK378 := n7_; have GW378 := n8_; have GE378 := n9_; have NB326_378 := n10_; have NB378_326 := n11_; have NB327_378 := n12_; have NB378_327 := n13_; have NB328_378 := n14_; have NB378_328 := n15_; have NB333_378 := n16_; have NB378_333 := n17_; have NB347_378 := n18_; have NB378_347 := n19_; clear n0_ n1_ n2_ n3_ n4_ n5_ n6_ n7_ n8_ n9_ n10_ n11_ n12_ n13_ n14_ n15_ n16_ n17_ n18_ n19_; clear hb hbox hg; have hnb137 := NB378_326.out; have hnc137 := NB326_378.out; have hnb138 := NB378_327.out; have hnc138 := NB327_378.out; have hnb139 := NB378_328.out; have hnc139 := NB328_378.out; have hnb140 := NB378_333.out; have hnc140 := NB333_378.out; have hnb141 := NB378_347.out; have hnc141 := NB347_378.out; have hcz142_0 : w136.cell? ⟨gb378, 0, none⟩ = some (.string (⟨#[]⟩ : ByteArray)) := (blk_cell BK378.out 0).trans rfl; have hcz142_1 : w136.cell? ⟨gb378, 1, none⟩ = some (.string (⟨#[]⟩ : ByteArray)) := (blk_cell BK378.out 1).trans rfl; have hcz142_2 : w136.cell? ⟨gb378, 2, none⟩ = some (.bool false) := (blk_cell BK378.out 2).trans rfl; have hfz142_0 := blk_frozen BK378.out 0; have hfz142_1 := blk_frozen BK378.out 1; have hfz142_2 := blk_frozen BK378.out 2) | (go_at_call 10; (with_reducible refine (pumicelaw06_alive.calls  t379 _ A131.out).mono ?_); rintro e w143 ⟨rfl, hb⟩; have n0_ := Aside0.mk (Kd.R_below (by (with_reducible repeat (first | apply Kd.R_alloc | apply Kd.R_drewN | apply Kd.R_drew)); exact (Kd.R_mono (Kd.R_far (p := ⟨gb378, 2, none⟩) (Kd.R_far (p := ⟨gb378, 1, none⟩) (Kd.R_far (p := ⟨gb378, 0, none⟩) (Kd.R_types HO370.out BK378.out (by decide)) (fun _ hk => hk.2) (.string t374)) (fun _ hk => hk.2) (.string t375)) (fun _ hk => hk.2) (.bool t376)) (fun _ h_ => h_.1))) hb); have n1_ := Aside0.mk (blk_below (g := gb326) (o := .cells #[.int .i64 a0_0, .int .i64 a0_1, .int .i64 a0_2, .int .i64 a0_3, .int .i64 a0_4, .int .i64 a0_5, .int .i64 a0_6] 52 (0, 0)) (by (with_reducible repeat (first | refine blk_drewN ?_ _ | refine blk_drew ?_ | refine blk_alloc ?_ _)); refine blk_far ?_ NB326_378.out _; (with_reducible repeat (first | refine blk_drewN ?_ _ | refine blk_drew ?_ | refine blk_alloc ?_ _)); refine blk_far ?_ NB326_378.out _; (with_reducible repeat (first | refine blk_drewN ?_ _ | refine blk_drew ?_ | refine blk_alloc ?_ _)); refine blk_far ?_ NB326_378.out _; (with_reducible repeat (first | refine blk_drewN ?_ _ | refine blk_drew ?_ | refine blk_alloc ?_ _)); exact BK326.out) hb); have n2_ := Aside0.mk (blk_below (g := gb327) (o := .cells #[.string a2_0, .int .i64 a2_1, .int .i64 a2_2] 59 (0, 0)) (by (with_reducible repeat (first | refine blk_drewN ?_ _ | refine blk_drew ?_ | refine blk_alloc ?_ _)); refine blk_far ?_ NB327_378.out _; (with_reducible repeat (first | refine blk_drewN ?_ _ | refine blk_drew ?_ | refine blk_alloc ?_ _)); refine blk_far ?_ NB327_378.out _; (with_reducible repeat (first | refine blk_drewN ?_ _ | refine blk_drew ?_ | refine blk_alloc ?_ _)); refine blk_far ?_ NB327_378.out _; (with_reducible repeat (first | refine blk_drewN ?_ _ | refine blk_drew ?_ | refine blk_alloc ?_ _)); exact BK327.out) hb); have n3_ := Aside0.mk (blk_below (g := gb328) (o := .cells #[.string a3_0, .string a3_1, .bool a3_2] 32 (0, 0)) (by (with_reducible repeat (first | refine blk_drewN ?_ _ | refine blk_drew ?_ | refine blk_alloc ?_ _)); refine blk_far ?_ NB328_378.out _; (with_reducible repeat (first | refine blk_drewN ?_ _ | refine blk_drew ?_ | refine blk_alloc ?_ _)); refine blk_far ?_ NB328_378.out _; (with_reducible repeat (first | refine blk_drewN ?_ _ | refine blk_drew ?_ | refine blk_alloc ?_ _)); refine blk_far ?_ NB328_378.out _; (with_reducible repeat (first | refine blk_drewN ?_ _ | refine blk_drew ?_ | refine blk_alloc ?_ _)); exact BK328.out) hb); have n4_ := Aside0.mk (blk_below (g := gb333) (o := .cells #[.string t329, .string t330, .bool t331] 32 (0, 0)) (by (with_reducible repeat (first | refine blk_drewN ?_ _ | refine blk_drew ?_ | refine blk_alloc ?_ _)); refine blk_far ?_ NB333_378.out _; (with_reducible repeat (first | refine blk_drewN ?_ _ | refine blk_drew ?_ | refine blk_alloc ?_ _)); refine blk_far ?_ NB333_378.out _; (with_reducible repeat (first | refine blk_drewN ?_ _ | refine blk_drew ?_ | refine blk_alloc ?_ _)); refine blk_far ?_ NB333_378.out _; (with_reducible repeat (first | refine blk_drewN ?_ _ | refine blk_drew ?_ | refine blk_alloc ?_ _)); exact BK333.out) hb); have n5_ := Aside0.mk (blk_below (g := gb347) (o := .cells #[.string t343, .string t344, .bool t345] 32 (0, 0)) (by (with_reducible repeat (first | refine blk_drewN ?_ _ | refine blk_drew ?_ | refine blk_alloc ?_ _)); refine blk_far ?_ NB347_378.out _; (with_reducible repeat (first | refine blk_drewN ?_ _ | refine blk_drew ?_ | refine blk_alloc ?_ _)); refine blk_far ?_ NB347_378.out _; (with_reducible repeat (first | refine blk_drewN ?_ _ | refine blk_drew ?_ | refine blk_alloc ?_ _)); refine blk_far ?_ NB347_378.out _; (with_reducible repeat (first | refine blk_drewN ?_ _ | refine blk_drew ?_ | refine blk_alloc ?_ _)); exact BK347.out) hb); have n6_ := Aside0.mk (blk_below (g := gb378) (o := .cells #[.string t374, .string t375, .bool t376] 32 (0, 0)) (by (with_reducible repeat (first | refine blk_drewN ?_ _ | refine blk_drew ?_ | refine blk_alloc ?_ _)); refine blk_put (cs := #[.string t374, .string t375, .bool false]) ?_ 2 _ rfl; (with_reducible repeat (first | refine blk_drewN ?_ _ | refine blk_drew ?_ | refine blk_alloc ?_ _)); refine blk_put (cs := #[.string t374, .string (⟨#[]⟩ : ByteArray), .bool false]) ?_ 1 _ rfl; (with_reducible repeat (first | refine blk_drewN ?_ _ | refine blk_drew ?_ | refine blk_alloc ?_ _)); refine blk_put (cs := #[.string (⟨#[]⟩ : ByteArray), .string (⟨#[]⟩ : ByteArray), .bool false]) ?_ 0 _ rfl; (with_reducible repeat (first | refine blk_drewN ?_ _ | refine blk_drew ?_ | refine blk_alloc ?_ _)); exact BK378.out) hb); have n7_ := Aside0.mk (below_step (by repeat (first | (with_reducible first | exact HB.out | apply below_alloc | apply pw_below_drewN | apply below_drew1 | refine below_set ?_ GE326.out | refine below_set ?_ GE327.out | refine below_set ?_ GE328.out | refine below_set ?_ GE333.out | refine below_set ?_ GE347.out | refine below_set ?_ GE378.out) | exact HB.out)) hb); clear HO370; clear BK326; clear BK327; clear BK328; clear BK333; clear BK347; clear BK378; clear HB; have HO370 := n0_; have BK326 := n1_; have BK327 := n2_; have BK328 := n3_; have BK333 := n4_; have BK347 := n5_; have BK378 := n6_; have HB := n7_; clear n0_ n1_ n2_ n3_ n4_ n5_ n6_ n7_; (try clear hb); (try clear hb2); (try clear hk); (try clear hi)))
                        go_ret
                        exact ⟨by first | rfl | exact isEmpty_bne_ _ | (simp [errW_none, errW_some] <;> rfl) | (simp [*, errW_none, errW_some] <;> rfl), by repeat (first | (with_reducible first | exact HB.out | apply below_alloc | apply pw_below_drewN | apply below_drew1 | refine below_set ?_ GE326.out | refine below_set ?_ GE327.out | refine below_set ?_ GE328.out | refine below_set ?_ GE333.out | refine below_set ?_ GE347.out | refine below_set ?_ GE378.out) | exact HB.out)⟩
                    · rw [if_neg c129] at H
                      exact absurd H (by simp)
                  · rw [if_neg c128] at H
                    exact absurd H (by simp)
                · replace c127 := Bool.eq_false_iff.mpr c127
                  subst c127
                  have H1 : (none) = some r := by rw [if_neg (show ¬ (false = true) by decide)] at H; exact H
                  clear H
                  have H := H1
                  clear H1
                  exact absurd H (by simp)
              · rw [if_neg c126] at H
                exact absurd H (by simp)

end Go.Proofs.Ytakchpeohmkpkaa.Q

namespace Go.Proofs.Ytakchpeohmkpkaa.Q
open Go.RowKit Go.Proofs.YtakchpeohmkpkaaW.PrintWords
set_option linter.unusedVariables false
set_option linter.unusedSimpArgs false
theorem leV_leB : ∀ (m : Nat) (n : Int), 0 ≤ n → n < 256 ^ m → leVal (leBytes n m) = n
  | 0, n, h0, h1 => by simp at h1; simp [leBytes, leVal]; omega
  | m + 1, n, h0, h1 => by
    rw [leBytes, leVal, leV_leB m (n / 256) (by omega) (by rw [Int.pow_succ] at h1; omega)]
    omega
theorem leL (m : Nat) (n : Int) : (leBytes n m).length = m := by
  induction m generalizing n with
  | zero => rfl
  | succ m ih => rw [leBytes, List.length_cons, ih]
theorem leBy : ∀ (m : Nat) (n : Int), Bytes (leBytes n m)
  | 0, _ => fun x hx => by simp [leBytes] at hx
  | m + 1, n => fun x hx => by
    rw [leBytes, List.mem_cons] at hx
    rcases hx with rfl | hx
    · omega
    · exact leBy m _ x hx
theorem bytesOf_num {xs : List Int} (h : Bytes xs) : bytesOf (strOfNums xs) = xs := by
  unfold bytesOf
  rw [strOfNums_data, List.map_map]
  conv => rhs; rw [← List.map_id xs]
  apply List.map_congr_left
  intro x hx
  have := h x hx
  simp only [Function.comp, id]
  have h2 : (UInt8.ofNat x.toNat).toNat = x.toNat := by
    rw [UInt8.toNat_ofNat']
    omega
  omega
theorem num_bytesOf (s : ByteArray) : strOfNums (bytesOf s) = s := by
  have h : (strOfNums (bytesOf s)).data.toList = s.data.toList := by
    rw [strOfNums_data]
    unfold bytesOf
    rw [List.map_map]
    conv => rhs; rw [← List.map_id s.data.toList]
    apply List.map_congr_left
    intro x _
    simp [Function.comp]
  cases s
  exact congrArg ByteArray.mk (Array.toList_inj.1 h)
theorem inode_read (a1 a2 a3 a4 a5 a6 : Int) : ∀ l, l = inodeBytes a1 a2 a3 a4 a5 a6 → pos l 0 1 = 1 ∧ pos l 1 2 = 3 ∧ pos l 3 2 = 5 ∧ pos l 5 2 = 7 ∧ pos l 7 2 = 9 ∧ pos l 9 4 = 13 ∧ nxt l 0 1 = leBytes a1 1 ∧ nxt l 1 2 = leBytes a2 2 ∧ nxt l 3 2 = leBytes a3 2 ∧ nxt l 5 2 = leBytes a4 2 ∧ nxt l 7 2 = leBytes a5 2 ∧ nxt l 9 4 = leBytes a6 4 ∧ l.length = 13 := by
  rintro l rfl
  exact ⟨rfl, rfl, rfl, rfl, rfl, rfl, rfl, rfl, rfl, rfl, rfl, rfl, rfl⟩
theorem size_n (s : ByteArray) : s.size = s.toList.length := by rw [Lib.toList_data]; exact (data_length s).symm
theorem bt_get_n (s : ByteArray) (i : Nat) (h : i < s.size) : s.toList[i]? = some (u8_ (bt s (i : Int))) := by
  have hb : bt s (i : Int) = ((s[i]'h).toNat : Int) := (bt_at s (i : Int) h).symm
  rw [Lib.toList_data, hb]
  have : s.data.toList[i]? = some (s[i]'h) := by
    rw [List.getElem?_eq_getElem (by rw [data_length]; exact h)]
    rfl
  rw [this]
  congr 1
  show _ = UInt8.ofNat (((s[i]'h).toNat : Int)).toNat
  rw [Int.toNat_natCast, UInt8.ofNat_toNat]
theorem bt_of_n (s : ByteArray) (i : Nat) (x : Int) (hx : 0 ≤ x ∧ x < 256) (h : s.toList[i]? = some (u8_ x)) : bt s (i : Int) = x := by
  have hi : i < s.size := by
    rw [size_n]
    exact (List.getElem?_eq_some_iff.1 h).1
  have h1 := bt_get_n s i hi
  rw [h] at h1
  have := bt_range s (i : Int)
  exact ((u8_eq hx (by omega)).1 (Option.some.inj h1)).symm
theorem num2_of_n (s : ByteArray) (x y : Int) (r : List UInt8) (hx : 0 ≤ x ∧ x < 256) (hy : 0 ≤ y ∧ y < 256) (h : s.toList = u8_ x :: u8_ y :: r) : num2 s = x * 256 + y := by
  unfold num2
  have h0 := bt_of_n s 0 x hx (by rw [h]; rfl)
  have h1 := bt_of_n s 1 y hy (by rw [h]; rfl)
  rw [show ((0 : Nat) : Int) = 0 from rfl] at h0
  rw [show ((1 : Nat) : Int) = 1 from rfl] at h1
  rw [h0, h1]
theorem ba_n {a b : ByteArray} (h : a.toList = b.toList) : a = b := by
  rw [Lib.toList_data, Lib.toList_data] at h
  cases a
  cases b
  congr 1
  exact Array.toList_inj.1 h
/-- The kind of a key of a right inode. -/
theorem nkind (s : ByteArray) (a z : Int) (rest : ByteArray) (ha : 1 ≤ a ∧ a ≤ 4096) (hz : 0 ≤ z ∧ z < 256) (h : s.toList = u8_ (hi a) :: u8_ (lo a) :: u8_ z :: rest.toList) (e : Int) (he : names_Right.f rest = some e) :
    node_Kind.f s = some (kindK false e a z rest) := by
  have hl : s.size = rest.size + 3 := by rw [size_n, h, size_n rest]; rfl
  have hn := num2_of_n s _ _ _ (hi_r a) (lo_r a) h
  rw [show hi a * 256 + lo a = a from by unfold hi lo; omega] at hn
  have h2 := bt_of_n s 2 z hz (by rw [h]; rfl)
  rw [show ((2 : Nat) : Int) = 2 from rfl] at h2
  have hr : s.extract 3 s.size = rest := by
    apply ba_n
    have : (s.extract 3 s.size).toList = s.toList.drop 3 := by
      rw [Lib.toList_data, Lib.toList_data]
      simp
      exact List.take_of_length_le (by rw [List.length_drop, data_length]; omega)
    rw [this, h]
    rfl
  unfold node_Kind.f
  rw [if_neg (by omega), hr, he, hn, h2]
  simp only [Option.bind_some]
  have : (a == 0) = false := by simp; omega
  rw [this]
  rfl
theorem good_n {a : Int} (h : 1 ≤ a ∧ a ≤ 4096) : goodInoB a = true := by unfold goodInoB; simp [h.1, h.2]
theorem nil_name : names_Right.f ⟨#[]⟩ = some 2 := by decide +kernel
theorem inode_back (a0 a1 a2 a3 a4 a5 a6 : Int) : (rightInode a0 a1 a2 a3 a4 a5 a6 = true ∧ ∃ k v, node_Inode.f a0 a1 a2 a3 a4 a5 a6 = some (k, v, false, 0) ∧ node_ParseInode.f k v false = some (a0, a1, a2, a3, a4, a5, a6, true)) ∨ node_Inode.f a0 a1 a2 a3 a4 a5 a6 = some (⟨#[]⟩, ⟨#[]⟩, false, 22) := by
  unfold node_Inode.f
  by_cases h : rightInode a0 a1 a2 a3 a4 a5 a6 = true
  rotate_left
  · rw [if_neg h]; exact .inr rfl
  rw [if_pos h]
  obtain ⟨k, hk, hl⟩ := inode_ok a0
  rw [hk]
  refine .inl ⟨h, k, _, rfl, ?_⟩
  have hr := h
  unfold rightInode at hr
  simp only [Bool.and_eq_true, decide_eq_true_eq] at hr
  have hkind := nkind k a0 1 ⟨#[]⟩ (by omega) (by omega) (by rw [hl]; rw [Lib.toList_data ⟨#[]⟩]) 2 nil_name
  have hKK : kindK false 2 a0 1 ⟨#[]⟩ = (1, a0, ⟨#[]⟩, 0) := by
    unfold kindK
    rw [good_n (a := a0) (by omega)]
    rfl
  rw [hKK] at hkind
  obtain ⟨q1, q2, q3, q4, q5, q6, n1, n2, n3, n4, n5, n6, hlen⟩ := inode_read a1 a2 a3 a4 a5 a6 _ rfl
  have hB : Bytes (inodeBytes a1 a2 a3 a4 a5 a6) := by
    unfold inodeBytes
    intro x hx
    simp only [List.mem_append] at hx
    rcases hx with ((((hx | hx) | hx) | hx) | hx) | hx
    · exact leBy _ _ x hx
    · exact leBy _ _ x hx
    · exact leBy _ _ x hx
    · exact leBy _ _ x hx
    · exact leBy _ _ x hx
    · exact leBy _ _ x hx
  unfold node_ParseInode.f
  rw [hkind]
  simp only [Option.bind_some]
  rw [if_pos (by rw [strOfNums_size, hlen]; decide)]
  unfold parseI
  rw [bytesOf_num hB]
  simp only [q1, q2, q3, q4, q5, q6, n1, n2, n3, n4, n5, n6, hlen]
  rw [leV_leB 1 a1 (by omega) (by omega), leV_leB 2 a2 (by omega) (by omega), leV_leB 2 a3 (by omega) (by omega), leV_leB 2 a4 (by omega) (by omega), leV_leB 2 a5 (by omega) (by omega), leV_leB 4 a6 (by omega) (by omega)]
  simp [h]
theorem entry_back (a0 : Int) (n : ByteArray) (i kd : Int) (hs : n.size ≤ 140737488355328) : (∃ k v, node_Entry.f a0 n i kd = some (k, v, false, 0) ∧ node_ParseEntry.f k v false = some (a0, n, i, kd, true)) ∨ node_Entry.f a0 n i kd = some (⟨#[]⟩, ⟨#[]⟩, false, 22) := by
  unfold node_Entry.f
  obtain ⟨e, he⟩ : ∃ e, names_Right.f n = some e := by unfold names_Right.f; rw [if_pos (by omega)]; exact ⟨_, rfl⟩
  rw [he]
  simp only [Option.bind_some]
  by_cases h : (goodIno_ a0 && (e == 0) && goodIno_ i && goodKind_ kd) = true
  rotate_left
  · rw [if_neg h]; exact .inr rfl
  rw [if_pos h]
  obtain ⟨k, hk, hl⟩ := entry_ok a0 n hs
  rw [hk]
  refine .inl ⟨k, _, rfl, ?_⟩
  unfold goodIno_ goodKind_ at h
  simp only [Bool.and_eq_true, decide_eq_true_eq, beq_iff_eq] at h
  have hkind := nkind k a0 2 n (by omega) (by omega) hl e he
  have hKK : kindK false e a0 2 n = (2, a0, n, 0) := by
    unfold kindK
    rw [good_n (a := a0) (by omega), h.1.1.2]
    rfl
  rw [hKK] at hkind
  have hB : Bytes (leBytes i 2 ++ leBytes kd 1) := by
    intro x hx
    rcases List.mem_append.1 hx with hx | hx
    · exact leBy _ _ x hx
    · exact leBy _ _ x hx
  unfold node_ParseEntry.f
  rw [hkind]
  simp only [Option.bind_some]
  rw [if_pos (by rw [strOfNums_size, List.length_append, leL, leL]; decide)]
  unfold parseE
  rw [bytesOf_num hB]
  have q1 : pos (leBytes i 2 ++ leBytes kd 1) 0 2 = 2 := rfl
  have q2 : pos (leBytes i 2 ++ leBytes kd 1) 2 1 = 3 := rfl
  have n1 : nxt (leBytes i 2 ++ leBytes kd 1) 0 2 = leBytes i 2 := rfl
  have n2 : nxt (leBytes i 2 ++ leBytes kd 1) 2 1 = leBytes kd 1 := rfl
  rw [q1, q2, n1, n2, leV_leB 2 i (by omega) (by omega), leV_leB 1 kd (by omega) (by omega)]
  rw [if_pos ⟨rfl, rfl, rfl, good_n (by omega), by unfold goodKindB; simp; omega⟩]
theorem pack_back (k v : ByteArray) (g : Bool) : (∃ xs, node_Pack.f k v g = some (xs, 0) ∧ node_Unpack.f xs = some (k, v, g, true) ∧ (∃ t, node_ParseMark.f xs = some t ∧ t.2.2 = false)) ∨ node_Pack.f k v g = some ([], 22) := by
  obtain ⟨b, hb⟩ := right_some2 k v g
  unfold node_Pack.f
  rw [hb]
  cases b with
  | false => exact .inr rfl
  | true =>
    refine .inl ⟨packed k v g, rfl, ?_⟩
    obtain ⟨_, hk, hv⟩ := right_sizes hb
    have hbl : ∀ s : ByteArray, (bytesOf s).length = s.size := bytesOf_length
    have hpk : packed k v g = (if g then 2 else 1) :: (k.size : Int) :: (bytesOf k ++ ((v.size : Int) % 256) :: ((v.size : Int) / 256 % 256) :: bytesOf v) := by
      unfold packed
      have z1 : leBytes (if g = true then 2 else 1) 1 = [if g then 2 else 1] := by cases g <;> rfl
      have z2 : leBytes (k.size : Int) 1 = [(k.size : Int)] := by
        simp only [leBytes]
        rw [show (k.size : Int) % 256 = k.size from by omega]
      rw [z1, z2]
      simp [leBytes]
    have hB : Bytes (packed k v g) := by
      unfold packed
      intro x hx
      simp only [List.mem_append] at hx
      rcases hx with (((hx | hx) | hx) | hx) | hx
      · exact leBy _ _ x hx
      · exact leBy _ _ x hx
      · exact bytes_of k x hx
      · exact leBy _ _ x hx
      · exact bytes_of v x hx
    have hl : (packed k v g).length ≤ 1000 := by
      unfold packed
      simp only [List.length_append, leL, hbl]
      omega
    have hu := node_unpack_val (if g then 2 else 1) k.size (bytesOf k) (bytesOf v) ((v.size : Int) % 256) ((v.size : Int) / 256 % 256) v.size (by rw [← hpk]; exact hB) (by rw [← hpk]; omega) (hbl k) (by omega)
    rw [← hpk] at hu
    refine ⟨?_, ?_⟩
    · rw [hu]
      unfold recd
      rw [num_bytesOf, num_bytesOf, hbl]
      have hg : decide ((if g then (2 : Int) else 1) = 2) = g := by cases g <;> rfl
      rw [hg, if_pos ⟨by cases g <;> simp, rfl, hb⟩]
    · refine ⟨parseM (packed k v g), by unfold node_ParseMark.f; rw [if_pos ⟨byteB_of hB, by omega⟩], ?_⟩
      unfold parseM
      rw [if_neg]
      rintro ⟨h, _⟩
      have n1 : nxt (packed k v g) 0 1 = [if g then 2 else 1] := by
        rw [hpk]
        unfold nxt
        rw [if_pos (by simp)]
        rfl
      rw [n1, leVal_one] at h
      cases g <;> simp at h
theorem mark_back (x c : Int) (hx : 0 ≤ x ∧ x < 18446744073709551616) (hc : 1 ≤ c ∧ c ≤ 16) : ∃ xs, node_Mark.f x c = some (xs, 0) ∧ node_ParseMark.f xs = some (x, c, true) ∧ ∃ t, node_Unpack.f xs = some t ∧ t.2.2.2 = false := by
  unfold node_Mark.f
  rw [if_neg (by omega)]
  refine ⟨_, rfl, ?_⟩
  have hB : Bytes (leBytes 3 1 ++ leBytes x 8 ++ leBytes c 1) := by
    intro y hy
    simp only [List.mem_append] at hy
    rcases hy with (hy | hy) | hy
    · exact leBy _ _ y hy
    · exact leBy _ _ y hy
    · exact leBy _ _ y hy
  have q1 : pos (leBytes 3 1 ++ leBytes x 8 ++ leBytes c 1) 0 1 = 1 := rfl
  have q2 : pos (leBytes 3 1 ++ leBytes x 8 ++ leBytes c 1) 1 8 = 9 := rfl
  have q3 : pos (leBytes 3 1 ++ leBytes x 8 ++ leBytes c 1) 9 1 = 10 := rfl
  have n1 : nxt (leBytes 3 1 ++ leBytes x 8 ++ leBytes c 1) 0 1 = [3] := rfl
  have n2 : nxt (leBytes 3 1 ++ leBytes x 8 ++ leBytes c 1) 1 8 = leBytes x 8 := rfl
  have n3 : nxt (leBytes 3 1 ++ leBytes x 8 ++ leBytes c 1) 9 1 = leBytes c 1 := rfl
  have hl : (leBytes 3 1 ++ leBytes x 8 ++ leBytes c 1).length = 10 := rfl
  constructor
  · unfold node_ParseMark.f parseM
    rw [if_pos ⟨byteB_of hB, by rw [hl]; decide⟩, q1, q2, q3, n1, n2, n3, leVal_one, leV_leB 8 x hx.1 (by omega), leV_leB 1 c (by omega) (by omega), if_pos ⟨rfl, hl.symm, hc.1, hc.2⟩]
  · unfold node_Unpack.f
    rw [if_pos ⟨byteB_of hB, by rw [hl]; decide⟩]
    obtain ⟨b, hb⟩ := right_some2 (strOfNums (nxt (leBytes 3 1 ++ leBytes x 8 ++ leBytes c 1) (pos (leBytes 3 1 ++ leBytes x 8 ++ leBytes c 1) (pos (leBytes 3 1 ++ leBytes x 8 ++ leBytes c 1) 0 1) 1) (leVal (nxt (leBytes 3 1 ++ leBytes x 8 ++ leBytes c 1) (pos (leBytes 3 1 ++ leBytes x 8 ++ leBytes c 1) 0 1) 1)).toNat)) (strOfNums (nxt (leBytes 3 1 ++ leBytes x 8 ++ leBytes c 1) (pos (leBytes 3 1 ++ leBytes x 8 ++ leBytes c 1) (pos (leBytes 3 1 ++ leBytes x 8 ++ leBytes c 1) (pos (leBytes 3 1 ++ leBytes x 8 ++ leBytes c 1) (pos (leBytes 3 1 ++ leBytes x 8 ++ leBytes c 1) 0 1) 1) (leVal (nxt (leBytes 3 1 ++ leBytes x 8 ++ leBytes c 1) (pos (leBytes 3 1 ++ leBytes x 8 ++ leBytes c 1) 0 1) 1)).toNat) 2) (leVal (nxt (leBytes 3 1 ++ leBytes x 8 ++ leBytes c 1) (pos (leBytes 3 1 ++ leBytes x 8 ++ leBytes c 1) (pos (leBytes 3 1 ++ leBytes x 8 ++ leBytes c 1) (pos (leBytes 3 1 ++ leBytes x 8 ++ leBytes c 1) 0 1) 1) (leVal (nxt (leBytes 3 1 ++ leBytes x 8 ++ leBytes c 1) (pos (leBytes 3 1 ++ leBytes x 8 ++ leBytes c 1) 0 1) 1)).toNat) 2)).toNat)) (decide (leVal (nxt (leBytes 3 1 ++ leBytes x 8 ++ leBytes c 1) 0 1) = 2))
    rw [hb]
    refine ⟨_, rfl, ?_⟩
    unfold unpackN
    rw [if_neg]
    rintro ⟨h, _⟩
    rw [n1, leVal_one] at h
    omega
theorem nb_j3 (x : Int) (hx : 0 ≤ x ∧ x < 18446744073709551616) (r : Nat) : pumicelaw06_NodeBack.j3 (r + 1) x = some true := by
  have hc : wrap64 (1 + wrap64 (Int.tmod x 16)) = 1 + x % 16 := by
    rw [Int.tmod_eq_emod_of_nonneg hx.1]
    unfold wrap64
    omega
  obtain ⟨xs, h1, h2, t, h3, h4⟩ := mark_back x (1 + x % 16) hx (by omega)
  rw [pumicelaw06_NodeBack.j3, hc, h1]
  simp only [Option.bind_some]
  rw [h2, h3]
  simp only [Option.bind_some, h4, alive_true, if_true, Bool.false_eq_true, if_false]
theorem nb_j2 (x : Int) (hx : 0 ≤ x ∧ x < 18446744073709551616) (r : Nat) (xs : List Int) (t : Int × Int × Bool) (h3 : node_ParseMark.f xs = some t) (h4 : t.2.2 = false) : pumicelaw06_NodeBack.j2 (r + 2) x xs false = some true := by
  rw [pumicelaw06_NodeBack.j2, h3]
  simp only [Option.bind_some, h4, Bool.false_eq_true, if_false]
  exact nb_j3 x hx r
theorem j1_shape (P : Option (List Int × Int)) (U : List Int → Option (ByteArray × ByteArray × Bool × Bool)) (Z : Option Int) (J2 : List Int → Bool → Option Bool) (J3 : Option Bool) (k v : ByteArray) (g : Bool)
    (h : (∃ xs, P = some (xs, 0) ∧ U xs = some (k, v, g, true) ∧ Z = some (wrap64 (6 + (xs.length : Int))) ∧ J2 xs false = some true) ∨ (P = some ([], 22) ∧ J3 = some true)) :
    (P.bind fun bt354 => (if bt354.2 = 0 then ((U bt354.1).bind fun bt358 => (if bt358.2.2.2 = true then (if (!(bt358.1.toList == k.toList) || (!(bt358.2.1.toList == v.toList) || (!(bt358.2.2.1 == g)))) = true then (J2 bt354.1 true) else (Z.bind fun t363 => (J2 bt354.1 (t363 != (wrap64 (6 + (bt354.1.length : Int))))))) else (J2 bt354.1 true))) else J3)) = some true := by
  rcases h with ⟨xs, rfl, h2, rfl, h4⟩ | ⟨rfl, h2⟩
  · simp only [Option.bind_some, if_true]
    rw [h2]
    simp only [Option.bind_some, if_true, bne_self_eq_false, beq_self_eq_true, Bool.not_true, Bool.or_self, Bool.false_eq_true, if_false]
    exact h4
  · simp only [Option.bind_some]
    rw [if_neg (by decide)]
    exact h2
theorem size_back (k v : ByteArray) (g : Bool) (xs : List Int) (h1 : node_Pack.f k v g = some (xs, 0)) : node_Size.f k v g = some (wrap64 (6 + (xs.length : Int))) := by
  unfold node_Size.f
  rw [h1]
  simp only [Option.bind_some, if_true]
theorem nb_j1 (x : Int) (hx : 0 ≤ x ∧ x < 18446744073709551616) (k v : ByteArray) (g : Bool) (r : Nat) : pumicelaw06_NodeBack.j1 (r + 3) x k v g = some true := by
  rw [pumicelaw06_NodeBack.j1]
  refine j1_shape (node_Pack.f k v g) node_Unpack.f (node_Size.f k v g) (fun xs b => pumicelaw06_NodeBack.j2 (r + 2) x xs b) (pumicelaw06_NodeBack.j3 (r + 2) x) k v g ?_
  rcases pack_back k v g with ⟨xs, h1, h2, t, h3, h4⟩ | h1
  · exact .inl ⟨xs, h1, h2, size_back k v g xs h1, nb_j2 x hx r xs t h3 h4⟩
  · exact .inr ⟨h1, nb_j3 x hx (r + 1)⟩
theorem nb_j0 (kk r : Nat) (hkk : kk = r + 4) (x : Int) (hx : 0 ≤ x ∧ x < 18446744073709551616) (d : Int) (n : ByteArray) (i kd : Int) (k v : ByteArray) (g : Bool) (hn : n.size ≤ 140737488351232) : pumicelaw06_NodeBack.j0 kk d x n i kd k v g = some true := by
  subst hkk
  rw [pumicelaw06_NodeBack.j0]
  rcases entry_back d n i kd (by omega) with ⟨k1, v1, h1, h2⟩ | h1
  · rw [h1]
    simp only [Option.bind_some, if_true]
    rw [h2]
    simp only [Option.bind_some, if_true, beq_self_eq_true, Bool.not_true, Bool.or_self, Bool.false_eq_true, if_false]
    exact nb_j1 x hx k v g r
  · rw [h1]
    simp only [Option.bind_some]
    rw [if_neg (by decide)]
    exact nb_j1 x hx k v g r
theorem nb_f (K : Nat) (a0 a1 a2 a3 a4 a5 a6 d : Int) (n : ByteArray) (i kd : Int) (k v : ByteArray) (g : Bool) (x : Int) (hj : pumicelaw06_NodeBack.j0 K d x n i kd k v g = some true) : pumicelaw06_NodeBack.f K a0 a1 a2 a3 a4 a5 a6 d n i kd k v g x = some true := by
  unfold pumicelaw06_NodeBack.f
  rcases inode_back a0 a1 a2 a3 a4 a5 a6 with ⟨_, k1, v1, h1, h2⟩ | h1
  · rw [h1]
    simp only [Option.bind_some, if_true]
    rw [h2]
    simp only [Option.bind_some, if_true, beq_self_eq_true, Bool.not_true, Bool.or_self, Bool.false_eq_true, if_false]
    exact hj
  · rw [h1]
    simp only [Option.bind_some]
    rw [if_neg (by decide)]
    exact hj
theorem nb_k (K : Nat) (hK : K = 9) (a0 a1 a2 a3 a4 a5 a6 d : Int) (n : ByteArray) (i kd : Int) (k v : ByteArray) (g : Bool) (x : Int) (hn : n.size ≤ 140737488351232) (hx : 0 ≤ x ∧ x < 18446744073709551616) : pumicelaw06_NodeBack.f K a0 a1 a2 a3 a4 a5 a6 d n i kd k v g x = some true :=
  nb_f K a0 a1 a2 a3 a4 a5 a6 d n i kd k v g x (nb_j0 K 5 hK x hx d n i kd k v g hn)
theorem NodeBack_pure (a0 a1 a2 a3 a4 a5 a6 d : Int) (n : ByteArray) (i kd : Int) (k v : ByteArray) (g : Bool) (x : Int) (hn : n.size ≤ 140737488351232) (hx : 0 ≤ x ∧ x < 18446744073709551616) : pumicelaw06_NodeBack.f 9 a0 a1 a2 a3 a4 a5 a6 d n i kd k v g x = some true :=
  nb_k 9 rfl a0 a1 a2 a3 a4 a5 a6 d n i kd k v g x hn hx
end Go.Proofs.Ytakchpeohmkpkaa.Q

namespace Go.Proofs.Ytakchpeohmkpkaa.nodeBack
open Go.ChangeShapes Go.WideShapes Go.ChangeAt Go.RowKit Go.Proofs.YtakchpeohmkpkaaW.PrintWords Go.Proofs.Ytakchpeohmkpkaa.Q
open Go.ChangeMaps (open_string shut_string)
set_option linter.unusedVariables false
set_option linter.unusedSimpArgs false
theorem own : ownKnob Try.prog.godebug = none := by kernel_rfl
theorem laidOut : laidOutB Try.prog = true := by kernel_rfl
set_option maxRecDepth 100000 in
set_option maxHeartbeats 1600000 in
theorem contract (H : Type) (enc : TypeId × Value → H) (W : World) (base : Nat) (args : Array Value) (ds gs : List (DataW H)) (before : List MemPlace)
    (hval0 : ∀ (j : Nat) t v, Try.f9.params[j]? = some t → args[j]? = some v → Value.okWide Try.prog W .any base t v)
    (hW : DataW.Whole enc Try.prog Try.f9.params.toList Rows.nodeBackSpec.vars false W args.toList ds gs before) (hsz0 : (DataW.weightsEach Try.prog (Try.f9.params.toList ++ Rows.nodeBackSpec.plain.varTypes Try.prog) (ds ++ gs)).all (· ≤ reachBytes) = true) :
    Calls Try.prog 9 args W fun e W' => ∃ v, e = .returned v ∧ Rows.nodeBackSpec.post enc Try.prog Try.f9 false true false false W args v W' := by
  have hsz : (DataW.weightsEach Try.prog (Try.f9.params.toList ++ Rows.nodeBackSpec.plain.varTypes Try.prog) (ds ++ gs)).all (· ≤ reachBytes) = true := hsz0
  have hval : ∀ (j : Nat) t v, Try.f9.params[j]? = some t → args[j]? = some v → Value.okWide Try.prog W .any base t v := hval0
  have hW' := hW
  obtain ⟨p, q, hA0, hV, rfl, hfz, hnd⟩ := hW
  have hA : DataW.TrodAll enc Try.prog W 0 (fun _ => true) true Try.f9.params.toList args.toList ds p := hA0
  rw [Try.params9] at hA hval hsz
  obtain ⟨v0, vs0, d0, ds0, p0, q0, hargs, rfl, rfl, h0, r0⟩ := trodAll_cons hA
  obtain ⟨v1, vs1, d1, ds1, p1, q1, rfl, rfl, rfl, h1, r1⟩ := trodAll_cons r0
  obtain ⟨v2, vs2, d2, ds2, p2, q2, rfl, rfl, rfl, h2, r2⟩ := trodAll_cons r1
  obtain ⟨v3, vs3, d3, ds3, p3, q3, rfl, rfl, rfl, h3, r3⟩ := trodAll_cons r2
  obtain ⟨v4, vs4, d4, ds4, p4, q4, rfl, rfl, rfl, h4, r4⟩ := trodAll_cons r3
  obtain ⟨rfl, rfl, rfl⟩ := trodAll_nil r4
  obtain rfl : args = #[v0, v1, v2, v3, v4] := by cases args; simp_all
  obtain ⟨rfl, rfl⟩ := trodVars_none hV
  have k0 := h0
  have lt0 : ∀ x ∈ p0, x.block < W.heap.size := by obtain ⟨m, hm⟩ := k0; exact DataW.trod_lt m _ _ _ hm
  obtain ⟨cs0, rfl, hsz0⟩ := okWide_struct Try.underlying52 (hval 0 52 v0 rfl rfl)
  obtain ⟨fu0, hf0⟩ := h0
  obtain ⟨ys0, n0, hd0, hyl0, hcl0, hfs0⟩ := R0.struct_fields Try.underlying52 (by kernel_rfl) (by kernel_rfl) hf0
  obtain ⟨c0_0, y0_0, hc0_0, hy0_0, ht0_0⟩ := hfs0 0 _ rfl
  obtain ⟨a0_0, rfl, hd0_0, w0_0⟩ := R0.int_cell Try.underlying3 ht0_0
  obtain ⟨c0_1, y0_1, hc0_1, hy0_1, ht0_1⟩ := hfs0 1 _ rfl
  obtain ⟨a0_1, rfl, hd0_1, w0_1⟩ := R0.int_cell Try.underlying3 ht0_1
  obtain ⟨c0_2, y0_2, hc0_2, hy0_2, ht0_2⟩ := hfs0 2 _ rfl
  obtain ⟨a0_2, rfl, hd0_2, w0_2⟩ := R0.int_cell Try.underlying3 ht0_2
  obtain ⟨c0_3, y0_3, hc0_3, hy0_3, ht0_3⟩ := hfs0 3 _ rfl
  obtain ⟨a0_3, rfl, hd0_3, w0_3⟩ := R0.int_cell Try.underlying3 ht0_3
  obtain ⟨c0_4, y0_4, hc0_4, hy0_4, ht0_4⟩ := hfs0 4 _ rfl
  obtain ⟨a0_4, rfl, hd0_4, w0_4⟩ := R0.int_cell Try.underlying3 ht0_4
  obtain ⟨c0_5, y0_5, hc0_5, hy0_5, ht0_5⟩ := hfs0 5 _ rfl
  obtain ⟨a0_5, rfl, hd0_5, w0_5⟩ := R0.int_cell Try.underlying3 ht0_5
  obtain ⟨c0_6, y0_6, hc0_6, hy0_6, ht0_6⟩ := hfs0 6 _ rfl
  obtain ⟨a0_6, rfl, hd0_6, w0_6⟩ := R0.int_cell Try.underlying3 ht0_6
  have hcs0 := R0.list7 hcl0 hc0_0 hc0_1 hc0_2 hc0_3 hc0_4 hc0_5 hc0_6
  obtain rfl := R0.list7 hyl0 hy0_0 hy0_1 hy0_2 hy0_3 hy0_4 hy0_5 hy0_6
  simp only [List.map_cons, List.map_nil, hd0_0, hd0_1, hd0_2, hd0_3, hd0_4, hd0_5, hd0_6] at hd0
  obtain rfl : cs0 = #[.int .i64 a0_0, .int .i64 a0_1, .int .i64 a0_2, .int .i64 a0_3, .int .i64 a0_4, .int .i64 a0_5, .int .i64 a0_6] := R0.arr_of hcs0
  have k1 := h1
  have lt1 : ∀ x ∈ p1, x.block < W.heap.size := by obtain ⟨m, hm⟩ := k1; exact DataW.trod_lt m _ _ _ hm
  obtain ⟨a1, rfl, rfl, rfl, w1⟩ := open_int Try.underlying3 (hval 1 3 v1 rfl rfl) h1
  have k2 := h2
  have lt2 : ∀ x ∈ p2, x.block < W.heap.size := by obtain ⟨m, hm⟩ := k2; exact DataW.trod_lt m _ _ _ hm
  obtain ⟨cs2, rfl, hsz2⟩ := okWide_struct Try.underlying59 (hval 2 59 v2 rfl rfl)
  obtain ⟨fu2, hf2⟩ := h2
  obtain ⟨ys2, n2, hd2, hyl2, hcl2, hfs2⟩ := R0.struct_fields Try.underlying59 (by kernel_rfl) (by kernel_rfl) hf2
  obtain ⟨c2_0, y2_0, hc2_0, hy2_0, ht2_0⟩ := hfs2 0 _ rfl
  obtain ⟨a2_0, rfl, hd2_0, z2_0⟩ := R0.string_cell Try.underlying9 ht2_0
  obtain ⟨c2_1, y2_1, hc2_1, hy2_1, ht2_1⟩ := hfs2 1 _ rfl
  obtain ⟨a2_1, rfl, hd2_1, w2_1⟩ := R0.int_cell Try.underlying3 ht2_1
  obtain ⟨c2_2, y2_2, hc2_2, hy2_2, ht2_2⟩ := hfs2 2 _ rfl
  obtain ⟨a2_2, rfl, hd2_2, w2_2⟩ := R0.int_cell Try.underlying3 ht2_2
  have hcs2 := R0.list3 hcl2 hc2_0 hc2_1 hc2_2
  obtain rfl := R0.list3 hyl2 hy2_0 hy2_1 hy2_2
  simp only [List.map_cons, List.map_nil, hd2_0, hd2_1, hd2_2] at hd2
  obtain rfl : cs2 = #[.string a2_0, .int .i64 a2_1, .int .i64 a2_2] := R0.arr_of hcs2
  have x2_0 : a2_0.size ≤ 140737488351232 := by
    have q := hsz
    rw [hd2] at q
    exact R0.sized_arg q (j := 2) (t := 59) rfl rfl a2_0.data.size (by simp [DataW.weights, DataW.weightsEach, Try.underlying59, Try.underlying9, Try.underlying3, Try.underlying3])
  have k3 := h3
  have lt3 : ∀ x ∈ p3, x.block < W.heap.size := by obtain ⟨m, hm⟩ := k3; exact DataW.trod_lt m _ _ _ hm
  obtain ⟨cs3, rfl, hsz3⟩ := okWide_struct Try.underlying32 (hval 3 32 v3 rfl rfl)
  obtain ⟨fu3, hf3⟩ := h3
  obtain ⟨ys3, n3, hd3, hyl3, hcl3, hfs3⟩ := R0.struct_fields Try.underlying32 (by kernel_rfl) (by kernel_rfl) hf3
  obtain ⟨c3_0, y3_0, hc3_0, hy3_0, ht3_0⟩ := hfs3 0 _ rfl
  obtain ⟨a3_0, rfl, hd3_0, z3_0⟩ := R0.string_cell Try.underlying9 ht3_0
  obtain ⟨c3_1, y3_1, hc3_1, hy3_1, ht3_1⟩ := hfs3 1 _ rfl
  obtain ⟨a3_1, rfl, hd3_1, z3_1⟩ := R0.string_cell Try.underlying9 ht3_1
  obtain ⟨c3_2, y3_2, hc3_2, hy3_2, ht3_2⟩ := hfs3 2 _ rfl
  obtain ⟨a3_2, rfl, hd3_2⟩ := R0.bool_cell Try.underlying4 ht3_2
  have hcs3 := R0.list3 hcl3 hc3_0 hc3_1 hc3_2
  obtain rfl := R0.list3 hyl3 hy3_0 hy3_1 hy3_2
  simp only [List.map_cons, List.map_nil, hd3_0, hd3_1, hd3_2] at hd3
  obtain rfl : cs3 = #[.string a3_0, .string a3_1, .bool a3_2] := R0.arr_of hcs3
  have x3_0 : a3_0.size ≤ 140737488351232 := by
    have q := hsz
    rw [hd3] at q
    exact R0.sized_arg q (j := 3) (t := 32) rfl rfl a3_0.data.size (by simp [DataW.weights, DataW.weightsEach, Try.underlying32, Try.underlying9, Try.underlying9, Try.underlying4])
  have x3_1 : a3_1.size ≤ 140737488351232 := by
    have q := hsz
    rw [hd3] at q
    exact R0.sized_arg q (j := 3) (t := 32) rfl rfl a3_1.data.size (by simp [DataW.weights, DataW.weightsEach, Try.underlying32, Try.underlying9, Try.underlying9, Try.underlying4])
  have k4 := h4
  have lt4 : ∀ x ∈ p4, x.block < W.heap.size := by obtain ⟨m, hm⟩ := k4; exact DataW.trod_lt m _ _ _ hm
  obtain ⟨a4, rfl, rfl, rfl, w4⟩ := open_int Try.underlying33 (hval 4 33 v4 rfl rfl) h4
  clear hA0 hval0 hsz0 hsz
  have hpure := NodeBack_pure a0_0 a0_1 a0_2 a0_3 a0_4 a0_5 a0_6 a1 a2_0 a2_1 a2_2 a3_0 a3_1 a3_2 a4 (by omega) (by have h_ := w4; have q1_ : IntKind.u64.min = 0 := rfl; have q2_ : IntKind.u64.max = 18446744073709551615 := rfl; simp [Lit.wf] at h_; omega)
  refine (Q.pumicelaw06_NodeBack.calls 9 a0_0 a0_1 a0_2 a0_3 a0_4 a0_5 a0_6 a1 a2_0 a2_1 a2_2 a3_0 a3_1 a3_2 a4 true W  hpure).mono fun e W' ⟨he, bel0⟩ => ?_
  have bel : Below W.heap.size W W' := bel0
  subst he
  exact ⟨_, rfl, _, _, _, [], _, [], hW', trodAll_mk1 (shut_bool Try.underlying4 _), (trodAll_cons_mk (Below.trod laidOut (by kernel_rfl) (of_decide_eq_true (by kernel_rfl)) k0 bel lt0) (trodAll_cons_mk (Below.trod laidOut (by kernel_rfl) (of_decide_eq_true (by kernel_rfl)) k1 bel lt1) (trodAll_cons_mk (Below.trod laidOut (by kernel_rfl) (of_decide_eq_true (by kernel_rfl)) k2 bel lt2) (trodAll_cons_mk (Below.trod laidOut (by kernel_rfl) (of_decide_eq_true (by kernel_rfl)) k3 bel lt3) (trodAll_cons_mk (Below.trod laidOut (by kernel_rfl) (of_decide_eq_true (by kernel_rfl)) k4 bel lt4) trodAll_mk0))))), rfl, bel.frame _, fun h => by cases h⟩
set_option maxRecDepth 100000 in
theorem lifted (os : Os) (started : os.Started) (H : Type) (enc : TypeId × Value → H) :
    ReturnsInHanded {} Try.checked os 9 .any (Rows.nodeBackSpec.pre6 enc Try.prog Try.f9 Rows.nodeBackRow.domain false) (Rows.nodeBackSpec.post enc Try.prog Try.f9 false true false false) := by
  refine returnsInHanded_of_change_sized (C := Try.checked) own started (by kernel_rfl) Try.func9
    (ChangeSpec.witness6 (enc := enc) (C := Try.checked) false ⟨#[], #[.agg #[.int .i64 0, .int .i64 0, .int .i64 0, .int .i64 0, .int .i64 0, .int .i64 0, .int .i64 0], .int .i64 0, .agg #[.string ByteArray.empty, .int .i64 0, .int .i64 0], .agg #[.string ByteArray.empty, .string ByteArray.empty, .bool false], .int .u64 0], []⟩ 8 (by kernel_rfl) (by kernel_rfl) (by kernel_rfl) (by kernel_rfl)) ?_
  intro W base args ds gs before hval hW _ hsz _
  exact contract H enc W base args ds gs before hval hW hsz
theorem over : Rows.nodeBackRow.holds Try.pinned (OpenSpec.ofChange Rows.nodeBackSpec) :=
  OpenClaim.holds_of_wide 9 Try.f9 rfl rfl rfl rfl rfl rfl rfl ⟨rfl, rfl, rfl, rfl, rfl⟩ rfl rfl rfl rfl rfl (by kernel_rfl) Try.func9 (by kernel_rfl)
    (of_decide_eq_true (by kernel_rfl)) (by unfold Func.isWrapper; first | (rw [if_pos (by decide +kernel)]; kernel_rfl) | (rw [if_neg (by decide +kernel)]; exact ⟨rfl, rfl⟩))
    (fun os started H enc _ => lifted os started H enc)
end Go.Proofs.Ytakchpeohmkpkaa.nodeBack
namespace Go.Proofs.Ytakchpeohmkpkaa
/-- The row. -/
theorem nodeBack_holds : Rows.NodeBackSaid := nodeBack.over
#print axioms nodeBack_holds
end Go.Proofs.Ytakchpeohmkpkaa
