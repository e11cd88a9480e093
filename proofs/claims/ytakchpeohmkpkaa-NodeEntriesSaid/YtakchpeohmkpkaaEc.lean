/- Q6, A0, S0, S1, K1, K2, H1a, H1, K3, K12, A4, Q1, Q3 -/
import Derived.Lib.Strings
import Derived.Lib.ConvBytes
import Derived.Lib.IndexAny
import Derived.Lib.AsciiSet
import Derived.Lib.OthersKept
import Derived.Lib.Bytealg
import Derived.Lib.IndexBytes
import Derived.Laws.RangeAny
import Derived.Laws.Runes
import Derived.Laws.Strings3
import Derived.Laws.ResultCell
import Derived.Deep.WholeRow
import Derived.WalkMore
import Derived.Deep.RegionLaw
import Derived.Test.YtakchpeohmkpkaaEa
import Derived.Test.YtakchpeohmkpkaaEb
namespace Go.Proofs.Ytakchpeohmkpkaa.Q
open Go.RowKit Go.Proofs.YtakchpeohmkpkaaW.PrintWords Go.Proofs.YtakchpeohmkpkaaW.PrintLast Go.Proofs.YtakchpeohmkpkaaW.PrintMore
attribute [local go_sem] max2_int min2_int max_two min_two max_three min_three max_four min_four   -- for this text's walks alone
set_option linter.unusedVariables false
set_option linter.unusedSimpArgs false

/-! ### pumicelaw06_alive: function 10 -/
def pumicelaw06_alive.f  : Option (Bool) := (node_Inode.f 1 2 493 0 0 2 0).bind fun bt135 => ((node_Pack.f bt135.1 bt135.2.1 bt135.2.2.1).bind fun bt140 => ((node_Mark.f 5 2).bind fun bt144 => ((node_Inode.f 1 2 512 0 0 0 0).bind fun bt148 => ((node_EntryKey.f 258 (⟨#[97]⟩ : ByteArray)).bind fun t153 => (if t153.toList = ([1, 2, 2, 97] : List UInt8) then ((node_OrphanKey.f 7).bind fun t154 => (if t154.toList = ([0, 0, 4, 0, 7] : List UInt8) then (if bt135.2.2.2 = 0 then (if (bt135.2.1.size : Int) = 13 then (if bt140.2 = 0 then (if (bt140.1.length : Int) = 20 then (if (bt144.1.length : Int) = 10 then (if bt144.2 = 0 then (some (bt148.2.2.2 == 22)) else (none)) else (none)) else (none)) else (none)) else (none)) else (none)) else (none))) else (none))))))
set_option maxHeartbeats 8000000 in
set_option maxRecDepth 100000 in
theorem pumicelaw06_alive.calls  (r : Bool) (w : World) (h : pumicelaw06_alive.f  = some r) :
    Calls Try.prog 10 #[] w fun e w' => e = .returned (.bool r) ∧ Below w.heap.size w w' := by
  have hu52 := Try.underlying52
  have hu32 := Try.underlying32
  have HB := Aside0.mk (Below.refl w.heap.size w)
  have H : ((node_Inode.f 1 2 493 0 0 2 0).bind fun bt135 => ((node_Pack.f bt135.1 bt135.2.1 bt135.2.2.1).bind fun bt140 => ((node_Mark.f 5 2).bind fun bt144 => ((node_Inode.f 1 2 512 0 0 0 0).bind fun bt148 => ((node_EntryKey.f 258 (⟨#[97]⟩ : ByteArray)).bind fun t153 => (if t153.toList = ([1, 2, 2, 97] : List UInt8) then ((node_OrphanKey.f 7).bind fun t154 => (if t154.toList = ([0, 0, 4, 0, 7] : List UInt8) then (if bt135.2.2.2 = 0 then (if (bt135.2.1.size : Int) = 13 then (if bt140.2 = 0 then (if (bt140.1.length : Int) = 20 then (if (bt144.1.length : Int) = 10 then (if bt144.2 = 0 then (some (bt148.2.2.2 == 22)) else (none)) else (none)) else (none)) else (none)) else (none)) else (none)) else (none))) else (none))))))) = some r := h
  clear h
  replace H := Option.bind_eq_some_iff.mp H
  obtain ⟨⟨t135, t136, t137, t138⟩, A10, H⟩ := H
  replace H : ((node_Pack.f t135 t136 t137).bind fun bt140 => ((node_Mark.f 5 2).bind fun bt144 => ((node_Inode.f 1 2 512 0 0 0 0).bind fun bt148 => ((node_EntryKey.f 258 (⟨#[97]⟩ : ByteArray)).bind fun t153 => (if t153.toList = ([1, 2, 2, 97] : List UInt8) then ((node_OrphanKey.f 7).bind fun t154 => (if t154.toList = ([0, 0, 4, 0, 7] : List UInt8) then (if t138 = 0 then (if (t136.size : Int) = 13 then (if bt140.2 = 0 then (if (bt140.1.length : Int) = 20 then (if (bt144.1.length : Int) = 10 then (if bt144.2 = 0 then (some (bt148.2.2.2 == 22)) else (none)) else (none)) else (none)) else (none)) else (none)) else (none)) else (none))) else (none)))))) = some r := H
  have A1 := Aside0.mk A10
  clear A10
  replace H := Option.bind_eq_some_iff.mp H
  obtain ⟨⟨t140, t143⟩, A20, H⟩ := H
  replace H : ((node_Mark.f 5 2).bind fun bt144 => ((node_Inode.f 1 2 512 0 0 0 0).bind fun bt148 => ((node_EntryKey.f 258 (⟨#[97]⟩ : ByteArray)).bind fun t153 => (if t153.toList = ([1, 2, 2, 97] : List UInt8) then ((node_OrphanKey.f 7).bind fun t154 => (if t154.toList = ([0, 0, 4, 0, 7] : List UInt8) then (if t138 = 0 then (if (t136.size : Int) = 13 then (if t143 = 0 then (if (t140.length : Int) = 20 then (if (bt144.1.length : Int) = 10 then (if bt144.2 = 0 then (some (bt148.2.2.2 == 22)) else (none)) else (none)) else (none)) else (none)) else (none)) else (none)) else (none))) else (none))))) = some r := H
  have A2 := Aside0.mk A20
  clear A20
  replace H := Option.bind_eq_some_iff.mp H
  obtain ⟨⟨t144, t145⟩, A30, H⟩ := H
  replace H : ((node_Inode.f 1 2 512 0 0 0 0).bind fun bt148 => ((node_EntryKey.f 258 (⟨#[97]⟩ : ByteArray)).bind fun t153 => (if t153.toList = ([1, 2, 2, 97] : List UInt8) then ((node_OrphanKey.f 7).bind fun t154 => (if t154.toList = ([0, 0, 4, 0, 7] : List UInt8) then (if t138 = 0 then (if (t136.size : Int) = 13 then (if t143 = 0 then (if (t140.length : Int) = 20 then (if (t144.length : Int) = 10 then (if t145 = 0 then (some (bt148.2.2.2 == 22)) else (none)) else (none)) else (none)) else (none)) else (none)) else (none)) else (none))) else (none)))) = some r := H
  have A3 := Aside0.mk A30
  clear A30
  replace H := Option.bind_eq_some_iff.mp H
  obtain ⟨⟨t148, t149, t150, t151⟩, A40, H⟩ := H
  replace H : ((node_EntryKey.f 258 (⟨#[97]⟩ : ByteArray)).bind fun t153 => (if t153.toList = ([1, 2, 2, 97] : List UInt8) then ((node_OrphanKey.f 7).bind fun t154 => (if t154.toList = ([0, 0, 4, 0, 7] : List UInt8) then (if t138 = 0 then (if (t136.size : Int) = 13 then (if t143 = 0 then (if (t140.length : Int) = 20 then (if (t144.length : Int) = 10 then (if t145 = 0 then (some (t151 == 22)) else (none)) else (none)) else (none)) else (none)) else (none)) else (none)) else (none))) else (none))) = some r := H
  have A4 := Aside0.mk A40
  clear A40
  replace H := Option.bind_eq_some_iff.mp H
  obtain ⟨t153, A50, H⟩ := H
  replace H : (if t153.toList = ([1, 2, 2, 97] : List UInt8) then ((node_OrphanKey.f 7).bind fun t154 => (if t154.toList = ([0, 0, 4, 0, 7] : List UInt8) then (if t138 = 0 then (if (t136.size : Int) = 13 then (if t143 = 0 then (if (t140.length : Int) = 20 then (if (t144.length : Int) = 10 then (if t145 = 0 then (some (t151 == 22)) else (none)) else (none)) else (none)) else (none)) else (none)) else (none)) else (none))) else (none)) = some r := H
  have A5 := Aside0.mk A50
  clear A50
  by_cases c6 : t153.toList = ([1, 2, 2, 97] : List UInt8)
  · rw [if_pos c6] at H
    have c6b0 : (t153.toList == ([1, 2, 2, 97] : List UInt8)) = true := beq_iff_eq.mpr c6
    have c6b1 : (t153.toList != ([1, 2, 2, 97] : List UInt8)) = false := bne_eq_false_iff_eq.mpr c6
    clear c6
    replace H := Option.bind_eq_some_iff.mp H
    obtain ⟨t154, A70, H⟩ := H
    replace H : (if t154.toList = ([0, 0, 4, 0, 7] : List UInt8) then (if t138 = 0 then (if (t136.size : Int) = 13 then (if t143 = 0 then (if (t140.length : Int) = 20 then (if (t144.length : Int) = 10 then (if t145 = 0 then (some (t151 == 22)) else (none)) else (none)) else (none)) else (none)) else (none)) else (none)) else (none)) = some r := H
    have A7 := Aside0.mk A70
    clear A70
    by_cases c8 : t154.toList = ([0, 0, 4, 0, 7] : List UInt8)
    · rw [if_pos c8] at H
      have c8b0 : (t154.toList == ([0, 0, 4, 0, 7] : List UInt8)) = true := beq_iff_eq.mpr c8
      have c8b1 : (t154.toList != ([0, 0, 4, 0, 7] : List UInt8)) = false := bne_eq_false_iff_eq.mpr c8
      clear c8
      by_cases c9 : t138 = 0
      · rw [if_pos c9] at H
        have c9b0 : (t138 == 0) = true := beq_iff_eq.mpr c9
        have c9b1 : (t138 != 0) = false := bne_eq_false_iff_eq.mpr c9
        clear c9
        by_cases c10 : (t136.size : Int) = 13
        · rw [if_pos c10] at H
          have c10b0 : ((t136.size : Int) == 13) = true := beq_iff_eq.mpr c10
          have c10b1 : ((t136.size : Int) != 13) = false := bne_eq_false_iff_eq.mpr c10
          clear c10
          by_cases c11 : t143 = 0
          · rw [if_pos c11] at H
            have c11b0 : (t143 == 0) = true := beq_iff_eq.mpr c11
            have c11b1 : (t143 != 0) = false := bne_eq_false_iff_eq.mpr c11
            clear c11
            by_cases c12 : (t140.length : Int) = 20
            · rw [if_pos c12] at H
              have c12b0 : ((t140.length : Int) == 20) = true := beq_iff_eq.mpr c12
              have c12b1 : ((t140.length : Int) != 20) = false := bne_eq_false_iff_eq.mpr c12
              clear c12
              by_cases c13 : (t144.length : Int) = 10
              · rw [if_pos c13] at H
                have c13b0 : ((t144.length : Int) == 10) = true := beq_iff_eq.mpr c13
                have c13b1 : ((t144.length : Int) != 10) = false := bne_eq_false_iff_eq.mpr c13
                clear c13
                by_cases c14 : t145 = 0
                · rw [if_pos c14] at H
                  have c14b0 : (t145 == 0) = true := beq_iff_eq.mpr c14
                  have c14b1 : (t145 != 0) = false := bne_eq_false_iff_eq.mpr c14
                  clear c14
                  obtain rfl := Option.some.inj H
                  go_enter Try.func10, Try.ntmps10
                  go_wp2_with (first | ((with_reducible refine gate_callee (f := 32) rfl ?_); refine goesL_ (some 11) rfl rfl Try.func32 (by kernel_rfl) rfl #[.agg #[.int .i64 1, .int .i64 2, .int .i64 493, .int .i64 0, .int .i64 0, .int .i64 2, .int .i64 0]] rfl (by (try simp only [List.map_toArray, List.map_cons, List.map_nil]); first | done | rfl | (simp only [List.length_drop, List.length_take]; rfl)) ?_; (with_reducible refine (node_Inode.calls 1 2 493 0 0 2 0 t135 t136 t137 t138 _ A1.out).mono ?_); rintro e w15 ⟨rfl, hb⟩; refine ⟨_, rfl, ?_⟩; have n0_ := Aside0.mk (below_step (by repeat (first | (with_reducible first | exact HB.out | apply below_alloc | apply pw_below_drewN | apply below_drew1) | exact HB.out)) hb); clear HB; have HB := n0_; clear n0_; (try clear hb); (try clear hb2); (try clear hk); (try clear hi)) | ((with_reducible refine gate_dst (N := 1) rfl ?_); (try (refine gate_guard (by rfl) ?_; dsimp only)); refine box_event ?hg (N := 1) ?hd (cs := #[.string (⟨#[]⟩ : ByteArray), .string (⟨#[]⟩ : ByteArray), .bool false]) (t := 32) ?hr ?_; (case hd => rfl); (case hg => rfl); (case hr => first | (go_simp; done) | (go_simp; rfl)); intro gb139 hg w16 hbox hb; have n0_ := Aside0.mk (below_step (by repeat (first | (with_reducible first | exact HB.out | apply below_alloc | apply pw_below_drewN | apply below_drew1) | exact HB.out)) hb); have n1_ := Aside0.mk (hbox); have n2_ := Aside0.mk ((by rw [hg]; exact (below_size (by repeat (first | (with_reducible first | exact HB.out | apply below_alloc | apply pw_below_drewN | apply below_drew1) | exact HB.out))) : w.heap.size ≤ gb139)); have n3_ := Aside0.mk ((by rw [hg]; exact (below_size (by repeat (first | (with_reducible first | exact HB.out | apply below_alloc | apply pw_below_drewN | apply below_drew1) | exact HB.out))) : w.heap.size ≤ gb139)); clear HB; have HB := n0_; have BK139 := n1_; have GW139 := n2_; have GE139 := n3_; clear n0_ n1_ n2_ n3_; clear hb hbox hg; have hcz17_0 : w16.cell? ⟨gb139, 0, none⟩ = some (.string (⟨#[]⟩ : ByteArray)) := (blk_cell BK139.out 0).trans rfl; have hcz17_1 : w16.cell? ⟨gb139, 1, none⟩ = some (.string (⟨#[]⟩ : ByteArray)) := (blk_cell BK139.out 1).trans rfl; have hcz17_2 : w16.cell? ⟨gb139, 2, none⟩ = some (.bool false) := (blk_cell BK139.out 2).trans rfl; have hfz17_0 := blk_frozen BK139.out 0; have hfz17_1 := blk_frozen BK139.out 1; have hfz17_2 := blk_frozen BK139.out 2) | ((with_reducible refine gate_callee (f := 18) rfl ?_); refine goesL_ (some 16) rfl rfl Try.func18 (by kernel_rfl) rfl #[.agg #[.string t135, .string t136, .bool t137]] rfl (by (try simp only [List.map_toArray, List.map_cons, List.map_nil]); first | done | rfl | (simp only [List.length_drop, List.length_take]; rfl)) ?_; (with_reducible refine (node_Pack.calls t135 t136 t137 t140 t143 _ A2.out).mono ?_); rintro e w18 ⟨v141, rfl, ho0, hb⟩; refine ⟨_, rfl, ?_⟩; have n0_ := Aside0.mk (Kd.R_lower ho0 (below_size (by repeat (first | (with_reducible first | exact HB.out | apply below_alloc | apply pw_below_drewN | apply below_drew1 | refine below_set ?_ GE139.out) | exact HB.out)))); have n1_ := Aside0.mk (blk_below (g := gb139) (o := .cells #[.string t135, .string t136, .bool t137] 32 (0, 0)) (by (with_reducible repeat (first | refine blk_drewN ?_ _ | refine blk_drew ?_ | refine blk_alloc ?_ _)); refine blk_put (cs := #[.string t135, .string t136, .bool false]) ?_ 2 _ rfl; (with_reducible repeat (first | refine blk_drewN ?_ _ | refine blk_drew ?_ | refine blk_alloc ?_ _)); refine blk_put (cs := #[.string t135, .string (⟨#[]⟩ : ByteArray), .bool false]) ?_ 1 _ rfl; (with_reducible repeat (first | refine blk_drewN ?_ _ | refine blk_drew ?_ | refine blk_alloc ?_ _)); refine blk_put (cs := #[.string (⟨#[]⟩ : ByteArray), .string (⟨#[]⟩ : ByteArray), .bool false]) ?_ 0 _ rfl; (with_reducible repeat (first | refine blk_drewN ?_ _ | refine blk_drew ?_ | refine blk_alloc ?_ _)); exact BK139.out) hb); have n2_ := Aside0.mk (below_step (by repeat (first | (with_reducible first | exact HB.out | apply below_alloc | apply pw_below_drewN | apply below_drew1 | refine below_set ?_ GE139.out) | exact HB.out)) hb); clear BK139; clear HB; have HO142 := n0_; have BK139 := n1_; have HB := n2_; clear n0_ n1_ n2_; (try clear hb); (try clear hb2); (try clear hk); (try clear hi); (try clear ho0)) | ((with_reducible refine gate_callee (f := 20) rfl ?_); refine goesL_ (some 20) rfl rfl Try.func20 (by kernel_rfl) rfl #[.int .u64 5, .int .i64 2] rfl (by (try simp only [List.map_toArray, List.map_cons, List.map_nil]); first | done | rfl | (simp only [List.length_drop, List.length_take]; rfl)) ?_; (with_reducible refine (node_Mark.calls 5 2 t144 t145 _ A3.out).mono ?_); rintro e w19 ⟨v146, rfl, ho0, hb⟩; refine ⟨_, rfl, ?_⟩; have n0_ := Aside0.mk (Kd.R_elder' (by (with_reducible repeat (first | apply Kd.R_alloc | apply Kd.R_drewN | apply Kd.R_drew)); exact HO142.out) (Kd.R_base ho0) hb); have n1_ := Aside0.mk (Kd.R_lower (Kd.R_new' ho0 (Kd.R_lt (by (with_reducible repeat (first | apply Kd.R_alloc | apply Kd.R_drewN | apply Kd.R_drew)); exact HO142.out))) (below_size (by repeat (first | (with_reducible first | exact HB.out | apply below_alloc | apply pw_below_drewN | apply below_drew1 | refine below_set ?_ GE139.out) | exact HB.out)))); have n2_ := Aside0.mk (blk_below (g := gb139) (o := .cells #[.string t135, .string t136, .bool t137] 32 (0, 0)) (by (with_reducible repeat (first | refine blk_drewN ?_ _ | refine blk_drew ?_ | refine blk_alloc ?_ _)); exact BK139.out) hb); have n3_ := Aside0.mk (below_step (by repeat (first | (with_reducible first | exact HB.out | apply below_alloc | apply pw_below_drewN | apply below_drew1 | refine below_set ?_ GE139.out) | exact HB.out)) hb); clear HO142; clear BK139; clear HB; have HO142 := n0_; have HO147 := n1_; have BK139 := n2_; have HB := n3_; clear n0_ n1_ n2_ n3_; (try clear hb); (try clear hb2); (try clear hk); (try clear hi); (try clear ho0)) | ((with_reducible refine gate_callee (f := 32) rfl ?_); refine goesL_ (some 25) rfl rfl Try.func32 (by kernel_rfl) rfl #[.agg #[.int .i64 1, .int .i64 2, .int .i64 512, .int .i64 0, .int .i64 0, .int .i64 0, .int .i64 0]] rfl (by (try simp only [List.map_toArray, List.map_cons, List.map_nil]); first | done | rfl | (simp only [List.length_drop, List.length_take]; rfl)) ?_; (with_reducible refine (node_Inode.calls 1 2 512 0 0 0 0 t148 t149 t150 t151 _ A4.out).mono ?_); rintro e w20 ⟨rfl, hb⟩; refine ⟨_, rfl, ?_⟩; have n0_ := Aside0.mk (Kd.R_below (by (with_reducible repeat (first | apply Kd.R_alloc | apply Kd.R_drewN | apply Kd.R_drew)); exact HO142.out) hb); have n1_ := Aside0.mk (Kd.R_below (by (with_reducible repeat (first | apply Kd.R_alloc | apply Kd.R_drewN | apply Kd.R_drew)); exact HO147.out) hb); have n2_ := Aside0.mk (blk_below (g := gb139) (o := .cells #[.string t135, .string t136, .bool t137] 32 (0, 0)) (by (with_reducible repeat (first | refine blk_drewN ?_ _ | refine blk_drew ?_ | refine blk_alloc ?_ _)); exact BK139.out) hb); have n3_ := Aside0.mk (below_step (by repeat (first | (with_reducible first | exact HB.out | apply below_alloc | apply pw_below_drewN | apply below_drew1 | refine below_set ?_ GE139.out) | exact HB.out)) hb); clear HO142; clear HO147; clear BK139; clear HB; have HO142 := n0_; have HO147 := n1_; have BK139 := n2_; have HB := n3_; clear n0_ n1_ n2_ n3_; (try clear hb); (try clear hb2); (try clear hk); (try clear hi)) | ((with_reducible refine gate_dst (N := 7) rfl ?_); (try (refine gate_guard (by rfl) ?_; dsimp only)); refine box_event ?hg (N := 7) ?hd (cs := #[.string (⟨#[]⟩ : ByteArray), .string (⟨#[]⟩ : ByteArray), .bool false]) (t := 32) ?hr ?_; (case hd => rfl); (case hg => rfl); (case hr => first | (go_simp; done) | (go_simp; rfl)); intro gb152 hg w21 hbox hb; have n0_ := Aside0.mk (Kd.R_below (by (with_reducible repeat (first | apply Kd.R_alloc | apply Kd.R_drewN | apply Kd.R_drew)); exact HO142.out) hb); have n1_ := Aside0.mk (Kd.R_below (by (with_reducible repeat (first | apply Kd.R_alloc | apply Kd.R_drewN | apply Kd.R_drew)); exact HO147.out) hb); have n2_ := Aside0.mk (blk_below (g := gb139) (o := .cells #[.string t135, .string t136, .bool t137] 32 (0, 0)) (by (with_reducible repeat (first | refine blk_drewN ?_ _ | refine blk_drew ?_ | refine blk_alloc ?_ _)); exact BK139.out) hb); have n3_ := Aside0.mk (below_step (by repeat (first | (with_reducible first | exact HB.out | apply below_alloc | apply pw_below_drewN | apply below_drew1 | refine below_set ?_ GE139.out) | exact HB.out)) hb); have n4_ := Aside0.mk (hbox); have n5_ := Aside0.mk ((by rw [hg]; exact (below_size (by repeat (first | (with_reducible first | exact HB.out | apply below_alloc | apply pw_below_drewN | apply below_drew1 | refine below_set ?_ GE139.out) | exact HB.out))) : w.heap.size ≤ gb152)); have n6_ := Aside0.mk ((by rw [hg]; exact (below_size (by repeat (first | (with_reducible first | exact HB.out | apply below_alloc | apply pw_below_drewN | apply below_drew1 | refine below_set ?_ GE139.out) | exact HB.out))) : w.heap.size ≤ gb152)); have n7_ := Aside0.mk ((by rw [hg]; exact Nat.ne_of_lt (blk_lt (g := gb139) (o := .cells #[.string t135, .string t136, .bool t137] 32 (0, 0)) (by (with_reducible repeat (first | refine blk_drewN ?_ _ | refine blk_drew ?_ | refine blk_alloc ?_ _)); exact BK139.out)) : gb139 ≠ gb152)); have n8_ := Aside0.mk ((by rw [hg]; exact Nat.ne_of_gt (blk_lt (g := gb139) (o := .cells #[.string t135, .string t136, .bool t137] 32 (0, 0)) (by (with_reducible repeat (first | refine blk_drewN ?_ _ | refine blk_drew ?_ | refine blk_alloc ?_ _)); exact BK139.out)) : gb152 ≠ gb139)); clear HO142; clear HO147; clear BK139; clear HB; have HO142 := n0_; have HO147 := n1_; have BK139 := n2_; have HB := n3_; have BK152 := n4_; have GW152 := n5_; have GE152 := n6_; have NB139_152 := n7_; have NB152_139 := n8_; clear n0_ n1_ n2_ n3_ n4_ n5_ n6_ n7_ n8_; clear hb hbox hg; have hnb22 := NB152_139.out; have hnc22 := NB139_152.out; have hcz23_0 : w21.cell? ⟨gb152, 0, none⟩ = some (.string (⟨#[]⟩ : ByteArray)) := (blk_cell BK152.out 0).trans rfl; have hcz23_1 : w21.cell? ⟨gb152, 1, none⟩ = some (.string (⟨#[]⟩ : ByteArray)) := (blk_cell BK152.out 1).trans rfl; have hcz23_2 : w21.cell? ⟨gb152, 2, none⟩ = some (.bool false) := (blk_cell BK152.out 2).trans rfl; have hfz23_0 := blk_frozen BK152.out 0; have hfz23_1 := blk_frozen BK152.out 1; have hfz23_2 := blk_frozen BK152.out 2) | ((with_reducible refine gate_callee (f := 12) rfl ?_); refine goesL_ (some 28) rfl rfl Try.func12 (by kernel_rfl) rfl #[.int .i64 258, .string (⟨#[97]⟩ : ByteArray)] rfl (by (try simp only [List.map_toArray, List.map_cons, List.map_nil]); first | done | rfl | (simp only [List.length_drop, List.length_take]; rfl)) ?_; (with_reducible refine (node_EntryKey.calls 258 (⟨#[97]⟩ : ByteArray) t153 _ A5.out).mono ?_); rintro e w24 ⟨rfl, hb⟩; refine ⟨_, rfl, ?_⟩; have n0_ := Aside0.mk (Kd.R_below (by (with_reducible repeat (first | apply Kd.R_alloc | apply Kd.R_drewN | apply Kd.R_drew)); exact (Kd.R_mono (Kd.R_far (p := ⟨gb152, 2, none⟩) (Kd.R_far (p := ⟨gb152, 1, none⟩) (Kd.R_far (p := ⟨gb152, 0, none⟩) (Kd.R_types HO142.out BK152.out (by decide)) (fun _ hk => hk.2) (.string t148)) (fun _ hk => hk.2) (.string t149)) (fun _ hk => hk.2) (.bool t150)) (fun _ h_ => h_.1))) hb); have n1_ := Aside0.mk (Kd.R_below (by (with_reducible repeat (first | apply Kd.R_alloc | apply Kd.R_drewN | apply Kd.R_drew)); exact (Kd.R_mono (Kd.R_far (p := ⟨gb152, 2, none⟩) (Kd.R_far (p := ⟨gb152, 1, none⟩) (Kd.R_far (p := ⟨gb152, 0, none⟩) (Kd.R_types HO147.out BK152.out (by decide)) (fun _ hk => hk.2) (.string t148)) (fun _ hk => hk.2) (.string t149)) (fun _ hk => hk.2) (.bool t150)) (fun _ h_ => h_.1))) hb); have n2_ := Aside0.mk (blk_below (g := gb139) (o := .cells #[.string t135, .string t136, .bool t137] 32 (0, 0)) (by (with_reducible repeat (first | refine blk_drewN ?_ _ | refine blk_drew ?_ | refine blk_alloc ?_ _)); refine blk_far ?_ NB139_152.out _; (with_reducible repeat (first | refine blk_drewN ?_ _ | refine blk_drew ?_ | refine blk_alloc ?_ _)); refine blk_far ?_ NB139_152.out _; (with_reducible repeat (first | refine blk_drewN ?_ _ | refine blk_drew ?_ | refine blk_alloc ?_ _)); refine blk_far ?_ NB139_152.out _; (with_reducible repeat (first | refine blk_drewN ?_ _ | refine blk_drew ?_ | refine blk_alloc ?_ _)); exact BK139.out) hb); have n3_ := Aside0.mk (blk_below (g := gb152) (o := .cells #[.string t148, .string t149, .bool t150] 32 (0, 0)) (by (with_reducible repeat (first | refine blk_drewN ?_ _ | refine blk_drew ?_ | refine blk_alloc ?_ _)); refine blk_put (cs := #[.string t148, .string t149, .bool false]) ?_ 2 _ rfl; (with_reducible repeat (first | refine blk_drewN ?_ _ | refine blk_drew ?_ | refine blk_alloc ?_ _)); refine blk_put (cs := #[.string t148, .string (⟨#[]⟩ : ByteArray), .bool false]) ?_ 1 _ rfl; (with_reducible repeat (first | refine blk_drewN ?_ _ | refine blk_drew ?_ | refine blk_alloc ?_ _)); refine blk_put (cs := #[.string (⟨#[]⟩ : ByteArray), .string (⟨#[]⟩ : ByteArray), .bool false]) ?_ 0 _ rfl; (with_reducible repeat (first | refine blk_drewN ?_ _ | refine blk_drew ?_ | refine blk_alloc ?_ _)); exact BK152.out) hb); have n4_ := Aside0.mk (below_step (by repeat (first | (with_reducible first | exact HB.out | apply below_alloc | apply pw_below_drewN | apply below_drew1 | refine below_set ?_ GE139.out | refine below_set ?_ GE152.out) | exact HB.out)) hb); clear HO142; clear HO147; clear BK139; clear BK152; clear HB; have HO142 := n0_; have HO147 := n1_; have BK139 := n2_; have BK152 := n3_; have HB := n4_; clear n0_ n1_ n2_ n3_ n4_; (try clear hb); (try clear hb2); (try clear hk); (try clear hi)) | (go_at_call 17; (with_reducible refine (node_OrphanKey.calls 7 t154 _ A7.out).mono ?_); rintro e w25 ⟨rfl, hb⟩; have n0_ := Aside0.mk (Kd.R_below (by (with_reducible repeat (first | apply Kd.R_alloc | apply Kd.R_drewN | apply Kd.R_drew)); exact HO142.out) hb); have n1_ := Aside0.mk (Kd.R_below (by (with_reducible repeat (first | apply Kd.R_alloc | apply Kd.R_drewN | apply Kd.R_drew)); exact HO147.out) hb); have n2_ := Aside0.mk (blk_below (g := gb139) (o := .cells #[.string t135, .string t136, .bool t137] 32 (0, 0)) (by (with_reducible repeat (first | refine blk_drewN ?_ _ | refine blk_drew ?_ | refine blk_alloc ?_ _)); exact BK139.out) hb); have n3_ := Aside0.mk (blk_below (g := gb152) (o := .cells #[.string t148, .string t149, .bool t150] 32 (0, 0)) (by (with_reducible repeat (first | refine blk_drewN ?_ _ | refine blk_drew ?_ | refine blk_alloc ?_ _)); exact BK152.out) hb); have n4_ := Aside0.mk (below_step (by repeat (first | (with_reducible first | exact HB.out | apply below_alloc | apply pw_below_drewN | apply below_drew1 | refine below_set ?_ GE139.out | refine below_set ?_ GE152.out) | exact HB.out)) hb); clear HO142; clear HO147; clear BK139; clear BK152; clear HB; have HO142 := n0_; have HO147 := n1_; have BK139 := n2_; have BK152 := n3_; have HB := n4_; clear n0_ n1_ n2_ n3_ n4_; (try clear hb); (try clear hb2); (try clear hk); (try clear hi); have hcz26_0 : w25.cell? ⟨gb139, 0, none⟩ = some (.string t135) := (blk_cell BK139.out 0).trans rfl; have hcz26_1 : w25.cell? ⟨gb139, 1, none⟩ = some (.string t136) := (blk_cell BK139.out 1).trans rfl; have hcz26_2 : w25.cell? ⟨gb139, 2, none⟩ = some (.bool t137) := (blk_cell BK139.out 2).trans rfl; have hfz26_0 := blk_frozen BK139.out 0; have hfz26_1 := blk_frozen BK139.out 1; have hfz26_2 := blk_frozen BK139.out 2; obtain ⟨Ao27, co27, eo27⟩ := Kd.R_slice HO142.out; subst eo27; obtain ⟨Ao28, co28, eo28⟩ := Kd.R_slice HO147.out; subst eo28))
                  go_ret
                  exact ⟨by first | rfl | exact isEmpty_bne_ _ | (simp [errW_none, errW_some] <;> rfl) | (simp [*, errW_none, errW_some] <;> rfl), by repeat (first | (with_reducible first | exact HB.out | apply below_alloc | apply pw_below_drewN | apply below_drew1 | refine below_set ?_ GE139.out | refine below_set ?_ GE152.out) | exact HB.out)⟩
                · rw [if_neg c14] at H
                  exact absurd H (by simp)
              · rw [if_neg c13] at H
                exact absurd H (by simp)
            · rw [if_neg c12] at H
              exact absurd H (by simp)
          · rw [if_neg c11] at H
            exact absurd H (by simp)
        · rw [if_neg c10] at H
          exact absurd H (by simp)
      · rw [if_neg c9] at H
        exact absurd H (by simp)
    · rw [if_neg c8] at H
      exact absurd H (by simp)
  · rw [if_neg c6] at H
    exact absurd H (by simp)

/-! ### pumiceref06_Mark: function 21 -/
def pumiceref06_Mark.f (k : Nat) (a0 : Int) (a1 : Int) : Option (List Int × Int) := if a1 < 1 then (some (([] : List Int), 22)) else (if a1 > 16 then (some (([] : List Int), 22)) else ((some (([3] : List Int) : List Int)).bind fun y155 => ((pumiceref01_Put.f k a0 8).bind fun t158 => (if y155.length + t158.length < 140737488355328 then ((some (y155 ++ t158 : List Int)).bind fun y161 => (if y161.length < 140737488355328 then (some ((y161 ++ [(a1) % 256]), 0)) else (none))) else (none)))))
theorem pumiceref06_Mark.mono : ∀ a0 a1 k, LeO (pumiceref06_Mark.f k a0 a1) (pumiceref06_Mark.f (k + 1) a0 a1) := by
  intro a0 a1 k
  unfold pumiceref06_Mark.f
  repeat' first
      | (with_reducible exact pumiceref01_Put.mono _ _ _)
      | (with_reducible exact LeO.refl _)
      | (with_reducible exact LeO.none _)
      | (with_reducible refine LeO.ite ?_ ?_)
      | (with_reducible refine LeO.bind ?_ (fun _ => ?_))
      | exact pumiceref01_Put.mono _ _ _
      | exact LeO.none _
      | refine LeO.ite ?_ ?_
      | refine LeO.bind ?_ (fun _ => ?_)
set_option maxHeartbeats 8000000 in
set_option maxRecDepth 100000 in
theorem pumiceref06_Mark.calls (k : Nat) (a0 : Int) (a1 : Int) (r1 : List Int) (r2 : Int) (w : World) (h : pumiceref06_Mark.f k a0 a1 = some (r1, r2)) :
    Calls Try.prog 21 #[.int .u64 a0, .int .i64 a1] w fun e w' => ∃ v0_ : Value, e = .returned (.tuple #[v0_, .int .i64 r2]) ∧ Kd.R (Kd.int .u8) 5 w' w.heap.size (fun _ => True) v0_ r1 ∧ Below w.heap.size w w' := by
  have HB := Aside0.mk (Below.refl w.heap.size w)
  have H : (if a1 < 1 then (some (([] : List Int), 22)) else (if a1 > 16 then (some (([] : List Int), 22)) else ((some (([3] : List Int) : List Int)).bind fun y155 => ((pumiceref01_Put.f k a0 8).bind fun t158 => (if y155.length + t158.length < 140737488355328 then ((some (y155 ++ t158 : List Int)).bind fun y161 => (if y161.length < 140737488355328 then (some ((y161 ++ [(a1) % 256]), 0)) else (none))) else (none)))))) = some (r1, r2) := h
  clear h
  by_cases c3 : a1 < 1
  · rw [if_pos c3] at H
    have c3b0 : decide (a1 < 1) = true := decide_eq_true c3
    clear c3
    simp only [Option.some.injEq, Prod.mk.injEq] at H
    obtain ⟨rfl, rfl⟩ := H
    go_enter Try.func21, Try.ntmps21
    go_wp2
    go_ret2
    exact ⟨_, by first | rfl | (simp [errW_none, errW_some] <;> rfl) | (simp [*, errW_none, errW_some] <;> rfl), by first | exact Kd.R_nil _ _ _ _ _ | exact Kd.N_nil _ _ _ _ _ | exact Kd.V_nil _ _ _ _ _ | exact Kd.Q_nil _ _ _ _ _ | exact Kd.S_nil _ _ _ _ _, by repeat (first | (with_reducible first | exact HB.out | apply below_alloc | apply pw_below_drewN | apply below_drew1) | exact HB.out)⟩
  · rw [if_neg c3] at H
    have c3b0 : decide (a1 < 1) = false := decide_eq_false c3
    clear c3
    by_cases c4 : a1 > 16
    · rw [if_pos c4] at H
      have c4b0 : decide (16 < a1) = true := decide_eq_true c4
      clear c4
      simp only [Option.some.injEq, Prod.mk.injEq] at H
      obtain ⟨rfl, rfl⟩ := H
      go_enter Try.func21, Try.ntmps21
      go_wp2
      go_ret2
      exact ⟨_, by first | rfl | (simp [errW_none, errW_some] <;> rfl) | (simp [*, errW_none, errW_some] <;> rfl), by first | exact Kd.R_nil _ _ _ _ _ | exact Kd.N_nil _ _ _ _ _ | exact Kd.V_nil _ _ _ _ _ | exact Kd.Q_nil _ _ _ _ _ | exact Kd.S_nil _ _ _ _ _, by repeat (first | (with_reducible first | exact HB.out | apply below_alloc | apply pw_below_drewN | apply below_drew1) | exact HB.out)⟩
    · rw [if_neg c4] at H
      have c4b0 : decide (16 < a1) = false := decide_eq_false c4
      clear c4
      obtain ⟨y155, hy155⟩ : ∃ y_ : List Int, y_ = (([3] : List Int)) := ⟨_, rfl⟩
      replace H : ((pumiceref01_Put.f k a0 8).bind fun t158 => (if y155.length + t158.length < 140737488355328 then ((some (y155 ++ t158 : List Int)).bind fun y161 => (if y161.length < 140737488355328 then (some ((y161 ++ [(a1) % 256]), 0)) else (none))) else (none))) = some (r1, r2) := by first | (rw [hy155]; with_reducible exact H) | (have H2_ := (Option.bind_some _ _).symm.trans H; rw [hy155]; with_reducible exact H2_) | (have H2_ := (Option.bind_some _ _).symm.trans H; with_reducible exact H2_) | with_reducible exact H | (rw [hy155]; exact H) | exact H
      have Ny155 := Aside0.mk hy155
      clear hy155
      replace H := Option.bind_eq_some_iff.mp H
      obtain ⟨t158, A50, H⟩ := H
      replace H : (if y155.length + t158.length < 140737488355328 then ((some (y155 ++ t158 : List Int)).bind fun y161 => (if y161.length < 140737488355328 then (some ((y161 ++ [(a1) % 256]), 0)) else (none))) else (none)) = some (r1, r2) := H
      have A5 := Aside0.mk A50
      clear A50
      by_cases c6 : y155.length + t158.length < 140737488355328
      · rw [if_pos c6] at H
        have LMc6 := Aside0.mk c6
        clear c6
        obtain ⟨y161, hy161⟩ : ∃ y_ : List Int, y_ = (y155 ++ t158) := ⟨_, rfl⟩
        replace H : (if y161.length < 140737488355328 then (some ((y161 ++ [(a1) % 256]), 0)) else (none)) = some (r1, r2) := by first | (rw [hy161]; with_reducible exact H) | (have H2_ := (Option.bind_some _ _).symm.trans H; rw [hy161]; with_reducible exact H2_) | (have H2_ := (Option.bind_some _ _).symm.trans H; with_reducible exact H2_) | with_reducible exact H | (rw [hy161]; exact H) | exact H
        have Ny161 := Aside0.mk hy161
        clear hy161
        by_cases c7 : y161.length < 140737488355328
        · rw [if_pos c7] at H
          have LMc7 := Aside0.mk c7
          clear c7
          obtain ⟨y164, hy164⟩ : ∃ y_ : List Int, y_ = (y161 ++ [(a1) % 256]) := ⟨_, rfl⟩
          replace H : (some (y164, 0)) = some (r1, r2) := by first | (rw [hy164]; with_reducible exact H) | (have H2_ := (Option.bind_some _ _).symm.trans H; rw [hy164]; with_reducible exact H2_) | (have H2_ := (Option.bind_some _ _).symm.trans H; with_reducible exact H2_) | with_reducible exact H | (rw [hy164]; exact H) | exact H
          have Ny164 := Aside0.mk hy164
          clear hy164
          simp only [Option.some.injEq, Prod.mk.injEq] at H
          obtain ⟨rfl, rfl⟩ := H
          go_enter Try.func21, Try.ntmps21
          go_wp2_with (first | ((with_reducible refine gate_dst (N := 13) rfl ?_); refine Kd.R_lit (Kd.int .u8) _ 5 ?hg (N := 13) ?hd (xs := ([3] : List Int)) (inner := [.int .u8 3]) (ok := fun _ => True) (okp := fun _ => True) ?hr ?hp (fun _ hk => hk) trivial (Below.refl _ _) (Nat.le_refl _) (by simp) ?_; (case hd => rfl); (case hg => rfl); (case hr => first | (go_simp; done) | (go_simp; rfl)); (case hp => exact (Reps.one (show Kd.M (Kd.int .u8) _ _ _ 3 [.int .u8 3] from rfl) (Reps.none _ _))); intro v156 w8 ho9 hb hg_ hnew_; clear hg_ hnew_; (first | rw [← Ny155.out] at ho9 | (simp only [Int.reduceToNat] at ho9; rw [← Ny155.out] at ho9)); have n0_ := Aside0.mk (Kd.R_lower ho9 (below_size (by repeat (first | (with_reducible first | exact HB.out | apply below_alloc | apply pw_below_drewN | apply below_drew1) | exact HB.out)))); have n1_ := Aside0.mk (below_step (by repeat (first | (with_reducible first | exact HB.out | apply below_alloc | apply pw_below_drewN | apply below_drew1) | exact HB.out)) hb); clear HB; have HO157 := n0_; have HB := n1_; clear n0_ n1_; clear hb ho9) | ((with_reducible refine gate_callee (f := 49) rfl ?_); refine goesL_ (some 16) rfl rfl Try.func49 (by kernel_rfl) rfl #[.int .u64 a0, .int .i64 8] rfl (by (try simp only [List.map_toArray, List.map_cons, List.map_nil]); first | done | rfl | (simp only [List.length_drop, List.length_take]; rfl)) ?_; (with_reducible refine (pumiceref01_Put.calls k a0 8 t158 _ A5.out).mono ?_); rintro e w10 ⟨v159, rfl, ho0, hb⟩; refine ⟨_, rfl, ?_⟩; have n0_ := Aside0.mk (Kd.R_elder' (by (with_reducible repeat (first | apply Kd.R_alloc | apply Kd.R_drewN | apply Kd.R_drew)); exact HO157.out) (Kd.R_base ho0) hb); have n1_ := Aside0.mk (Kd.R_lower (Kd.R_new' ho0 (Kd.R_lt (by (with_reducible repeat (first | apply Kd.R_alloc | apply Kd.R_drewN | apply Kd.R_drew)); exact HO157.out))) (below_size (by repeat (first | (with_reducible first | exact HB.out | apply below_alloc | apply pw_below_drewN | apply below_drew1) | exact HB.out)))); have n2_ := Aside0.mk (below_step (by repeat (first | (with_reducible first | exact HB.out | apply below_alloc | apply pw_below_drewN | apply below_drew1) | exact HB.out)) hb); clear HO157; clear HB; have HO157 := n0_; have HO160 := n1_; have HB := n2_; clear n0_ n1_ n2_; (try clear hb); (try clear hb2); (try clear hk); (try clear hi); (try clear ho0); obtain ⟨Ao12, co12, eo12⟩ := Kd.R_slice HO160.out; subst eo12) | ((with_reducible refine gate_builtin (b := .append) (xs := #[.tmp 14, .tmp 16]) rfl ?_); at_builtin; refine Kd.R_append_rows (Kd.int .u8) (w0 := w) w.heap.size rfl (.tmp 14) (.tmp 16) 34 5 (.int .u8 0) 1 rfl Try.underlying34 info5 rfl (by decide) (by omega) v156 y155 t158 _ _ _ (fun k_ => some k_ ≠ (.slice Ao12 t158.length co12 : Value).ownBlock) (fun _ => False) rfl rfl ?aO ?aR (fun _ _ h => h) (fun _ h => h.elim) ?aF ?aB ?aS ?aL ?_; (case aR => repeat (first | exact (Kd.R_reads' HO160.out).2.2 | (with_reducible refine Kd.C_alloc ?_ _) | (with_reducible refine Kd.C_drewN ?_ _) | (with_reducible refine Kd.C_drew ?_))); (case aB => exact (by repeat (first | (with_reducible first | exact HB.out | apply below_alloc | apply pw_below_drewN | apply below_drew1) | exact HB.out))); (case aF => exact (fun k_ hk => Kd.fresh' (Kd.R_lt (by (with_reducible repeat (first | apply Kd.R_alloc | apply Kd.R_drewN | apply Kd.R_drew)); exact HO160.out)) k_ hk)); (case aO => exact (by (with_reducible repeat (first | apply Kd.R_alloc | apply Kd.R_drewN | apply Kd.R_drew)); exact Kd.R_mono HO157.out (fun _ hk => hk.2))); (case aS => exact (below_size (by repeat (first | (with_reducible first | exact HB.out | apply below_alloc | apply pw_below_drewN | apply below_drew1) | exact HB.out)))); (case aL => have := LMc6.out; omega); intro v162 w11 ho hb hg hat; rw [← Ny161.out] at ho; have n0_ := Aside0.mk (Kd.R_after (ok := (fun _ => True)) (by (with_reducible repeat (first | apply Kd.R_alloc | apply Kd.R_drewN | apply Kd.R_drew)); exact HO160.out) hg hat); have n1_ := Aside0.mk (hb); have n2_ := Aside0.mk (ho); clear HO160; clear HB; clear HO157; have HO160 := n0_; have HB := n1_; have HO163 := n2_; clear n0_ n1_ n2_; clear ho hb hg hat) | ((with_reducible refine gate_builtin (b := .append) (xs := #[.tmp 18, .tmp 21]) rfl ?_); at_builtin; refine Kd.R_append (Kd.int .u8) (w0 := w) w.heap.size rfl (.tmp 18) (.tmp 21) 34 5 (.int .u8 0) 1 rfl Try.underlying34 info5 rfl (by decide) (by omega) v162 y161 ((a1) % 256) [.int .u8 ((a1) % 256)] (fun k_ => some k_ ≠ (.slice Ao12 t158.length co12 : Value).ownBlock) (fun _ => False) rfl rfl ?aP (fun _ hk => hk.elim) ?aF ?aO ?aB ?aS ?aL ?_; (case aP => exact rfl); (case aB => exact (by repeat (first | (with_reducible first | exact HB.out | apply below_alloc | apply pw_below_drewN | apply below_drew1) | exact HB.out))); (case aF => exact (fun k_ hk => Kd.fresh' (Kd.R_lt (by (with_reducible repeat (first | apply Kd.R_alloc | apply Kd.R_drewN | apply Kd.R_drew)); exact HO160.out)) k_ hk)); (case aO => exact (by (with_reducible repeat (first | apply Kd.R_alloc | apply Kd.R_drewN | apply Kd.R_drew)); exact HO163.out)); (case aS => exact (below_size (by repeat (first | (with_reducible first | exact HB.out | apply below_alloc | apply pw_below_drewN | apply below_drew1) | exact HB.out)))); (case aL => have := LMc7.out; omega); intro v165 w13 ho hb hg hat; rw [← Ny164.out] at ho; have n0_ := Aside0.mk (Kd.R_after (ok := (fun _ => True)) (by (with_reducible repeat (first | apply Kd.R_alloc | apply Kd.R_drewN | apply Kd.R_drew)); exact HO160.out) hg hat); have n1_ := Aside0.mk (hb); have n2_ := Aside0.mk (ho); clear HO160; clear HB; clear HO163; have HO160 := n0_; have HB := n1_; have HO166 := n2_; clear n0_ n1_ n2_; clear ho hb hg hat))
          go_ret2
          exact ⟨_, by first | rfl | (simp [errW_none, errW_some] <;> rfl) | (simp [*, errW_none, errW_some] <;> rfl), by (with_reducible repeat (first | apply Kd.R_alloc | apply Kd.R_drewN | apply Kd.R_drew)); exact Kd.R_mono HO166.out (fun _ hk => trivial), by repeat (first | (with_reducible first | exact HB.out | apply below_alloc | apply pw_below_drewN | apply below_drew1) | exact HB.out)⟩
        · rw [if_neg c7] at H
          exact absurd H (by simp)
      · rw [if_neg c6] at H
        exact absurd H (by simp)

/-! ### node_Size: function 24 -/
def node_Size.f (a0_0 : ByteArray) (a0_1 : ByteArray) (a0_2 : Bool) : Option (Int) := (node_Pack.f a0_0 a0_1 a0_2).bind fun bt168 => (if bt168.2 = 0 then (some (wrap64 (6 + (bt168.1.length : Int)))) else (some 0))
set_option maxHeartbeats 8000000 in
set_option maxRecDepth 100000 in
theorem node_Size.calls (a0_0 : ByteArray) (a0_1 : ByteArray) (a0_2 : Bool) (r : Int) (w : World) (h : node_Size.f a0_0 a0_1 a0_2 = some r) :
    Calls Try.prog 24 #[.agg #[.string a0_0, .string a0_1, .bool a0_2]] w fun e w' => e = .returned (.int .i64 r) ∧ Below w.heap.size w w' := by
  have hu32 := Try.underlying32
  have HB := Aside0.mk (Below.refl w.heap.size w)
  have H : ((node_Pack.f a0_0 a0_1 a0_2).bind fun bt168 => (if bt168.2 = 0 then (some (wrap64 (6 + (bt168.1.length : Int)))) else (some 0))) = some r := h
  clear h
  replace H := Option.bind_eq_some_iff.mp H
  obtain ⟨⟨t168, t171⟩, A20, H⟩ := H
  replace H : (if t171 = 0 then (some (wrap64 (6 + (t168.length : Int)))) else (some 0)) = some r := H
  have A2 := Aside0.mk A20
  clear A20
  by_cases c3 : t171 = 0
  · rw [if_pos c3] at H
    have c3b0 : (t171 == 0) = true := beq_iff_eq.mpr c3
    have c3b1 : (t171 != 0) = false := bne_eq_false_iff_eq.mpr c3
    clear c3
    obtain rfl := Option.some.inj H
    go_enter Try.func24, Try.ntmps24
    go_wp2_with (first | ((with_reducible refine gate_dst (N := 1) rfl ?_); refine box_event ?hg (N := 1) ?hd (cs := #[.string a0_0, .string a0_1, .bool a0_2]) (t := 32) ?hr ?_; (case hd => rfl); (case hg => rfl); (case hr => first | (go_simp; done) | (go_simp; rfl)); intro gb167 hg w4 hbox hb; have n0_ := Aside0.mk (below_step (by repeat (first | (with_reducible first | exact HB.out | apply below_alloc | apply pw_below_drewN | apply below_drew1) | exact HB.out)) hb); have n1_ := Aside0.mk (hbox); have n2_ := Aside0.mk ((by rw [hg]; exact (below_size (by repeat (first | (with_reducible first | exact HB.out | apply below_alloc | apply pw_below_drewN | apply below_drew1) | exact HB.out))) : w.heap.size ≤ gb167)); have n3_ := Aside0.mk ((by rw [hg]; exact (below_size (by repeat (first | (with_reducible first | exact HB.out | apply below_alloc | apply pw_below_drewN | apply below_drew1) | exact HB.out))) : w.heap.size ≤ gb167)); clear HB; have HB := n0_; have BK167 := n1_; have GW167 := n2_; have GE167 := n3_; clear n0_ n1_ n2_ n3_; clear hb hbox hg; have hcz5_0 : w4.cell? ⟨gb167, 0, none⟩ = some (.string a0_0) := (blk_cell BK167.out 0).trans rfl; have hcz5_1 : w4.cell? ⟨gb167, 1, none⟩ = some (.string a0_1) := (blk_cell BK167.out 1).trans rfl; have hcz5_2 : w4.cell? ⟨gb167, 2, none⟩ = some (.bool a0_2) := (blk_cell BK167.out 2).trans rfl; have hfz5_0 := blk_frozen BK167.out 0; have hfz5_1 := blk_frozen BK167.out 1; have hfz5_2 := blk_frozen BK167.out 2) | ((with_reducible refine gate_callee (f := 18) rfl ?_); refine goesL_ (some 7) rfl rfl Try.func18 (by kernel_rfl) rfl #[.agg #[.string a0_0, .string a0_1, .bool a0_2]] rfl (by (try simp only [List.map_toArray, List.map_cons, List.map_nil]); first | done | rfl | (simp only [List.length_drop, List.length_take]; rfl)) ?_; (with_reducible refine (node_Pack.calls a0_0 a0_1 a0_2 t168 t171 _ A2.out).mono ?_); rintro e w6 ⟨v169, rfl, ho0, hb⟩; refine ⟨_, rfl, ?_⟩; have n0_ := Aside0.mk (Kd.R_lower ho0 (below_size (by repeat (first | (with_reducible first | exact HB.out | apply below_alloc | apply pw_below_drewN | apply below_drew1 | refine below_set ?_ GE167.out) | exact HB.out)))); have n1_ := Aside0.mk (blk_below (g := gb167) (o := .cells #[.string a0_0, .string a0_1, .bool a0_2] 32 (0, 0)) (by (with_reducible repeat (first | refine blk_drewN ?_ _ | refine blk_drew ?_ | refine blk_alloc ?_ _)); exact BK167.out) hb); have n2_ := Aside0.mk (below_step (by repeat (first | (with_reducible first | exact HB.out | apply below_alloc | apply pw_below_drewN | apply below_drew1 | refine below_set ?_ GE167.out) | exact HB.out)) hb); clear BK167; clear HB; have HO170 := n0_; have BK167 := n1_; have HB := n2_; clear n0_ n1_ n2_; (try clear hb); (try clear hb2); (try clear hk); (try clear hi); (try clear ho0); obtain ⟨Ao7, co7, eo7⟩ := Kd.R_slice HO170.out; subst eo7))
    go_ret
    exact ⟨by first | rfl | exact isEmpty_bne_ _ | (simp [errW_none, errW_some] <;> rfl) | (simp [*, errW_none, errW_some] <;> rfl), by repeat (first | (with_reducible first | exact HB.out | apply below_alloc | apply pw_below_drewN | apply below_drew1 | refine below_set ?_ GE167.out) | exact HB.out)⟩
  · rw [if_neg c3] at H
    have c3b0 : (t171 == 0) = false := beq_eq_false_iff_ne.mpr c3
    have c3b1 : (t171 != 0) = true := bne_iff_ne.mpr c3
    obtain rfl := Option.some.inj H
    go_enter Try.func24, Try.ntmps24
    go_wp2_with (first | ((with_reducible refine gate_dst (N := 1) rfl ?_); refine box_event ?hg (N := 1) ?hd (cs := #[.string a0_0, .string a0_1, .bool a0_2]) (t := 32) ?hr ?_; (case hd => rfl); (case hg => rfl); (case hr => first | (go_simp; done) | (go_simp; rfl)); intro gb167 hg w8 hbox hb; have n0_ := Aside0.mk (below_step (by repeat (first | (with_reducible first | exact HB.out | apply below_alloc | apply pw_below_drewN | apply below_drew1) | exact HB.out)) hb); have n1_ := Aside0.mk (hbox); have n2_ := Aside0.mk ((by rw [hg]; exact (below_size (by repeat (first | (with_reducible first | exact HB.out | apply below_alloc | apply pw_below_drewN | apply below_drew1) | exact HB.out))) : w.heap.size ≤ gb167)); have n3_ := Aside0.mk ((by rw [hg]; exact (below_size (by repeat (first | (with_reducible first | exact HB.out | apply below_alloc | apply pw_below_drewN | apply below_drew1) | exact HB.out))) : w.heap.size ≤ gb167)); clear HB; have HB := n0_; have BK167 := n1_; have GW167 := n2_; have GE167 := n3_; clear n0_ n1_ n2_ n3_; clear hb hbox hg; have hcz9_0 : w8.cell? ⟨gb167, 0, none⟩ = some (.string a0_0) := (blk_cell BK167.out 0).trans rfl; have hcz9_1 : w8.cell? ⟨gb167, 1, none⟩ = some (.string a0_1) := (blk_cell BK167.out 1).trans rfl; have hcz9_2 : w8.cell? ⟨gb167, 2, none⟩ = some (.bool a0_2) := (blk_cell BK167.out 2).trans rfl; have hfz9_0 := blk_frozen BK167.out 0; have hfz9_1 := blk_frozen BK167.out 1; have hfz9_2 := blk_frozen BK167.out 2) | ((with_reducible refine gate_callee (f := 18) rfl ?_); refine goesL_ (some 7) rfl rfl Try.func18 (by kernel_rfl) rfl #[.agg #[.string a0_0, .string a0_1, .bool a0_2]] rfl (by (try simp only [List.map_toArray, List.map_cons, List.map_nil]); first | done | rfl | (simp only [List.length_drop, List.length_take]; rfl)) ?_; (with_reducible refine (node_Pack.calls a0_0 a0_1 a0_2 t168 t171 _ A2.out).mono ?_); rintro e w10 ⟨v169, rfl, ho0, hb⟩; refine ⟨_, rfl, ?_⟩; have n0_ := Aside0.mk (Kd.R_lower ho0 (below_size (by repeat (first | (with_reducible first | exact HB.out | apply below_alloc | apply pw_below_drewN | apply below_drew1 | refine below_set ?_ GE167.out) | exact HB.out)))); have n1_ := Aside0.mk (blk_below (g := gb167) (o := .cells #[.string a0_0, .string a0_1, .bool a0_2] 32 (0, 0)) (by (with_reducible repeat (first | refine blk_drewN ?_ _ | refine blk_drew ?_ | refine blk_alloc ?_ _)); exact BK167.out) hb); have n2_ := Aside0.mk (below_step (by repeat (first | (with_reducible first | exact HB.out | apply below_alloc | apply pw_below_drewN | apply below_drew1 | refine below_set ?_ GE167.out) | exact HB.out)) hb); clear BK167; clear HB; have HO170 := n0_; have BK167 := n1_; have HB := n2_; clear n0_ n1_ n2_; (try clear hb); (try clear hb2); (try clear hk); (try clear hi); (try clear ho0)))
    go_ret
    exact ⟨by first | rfl | exact isEmpty_bne_ _ | (simp [errW_none, errW_some] <;> rfl) | (simp [*, errW_none, errW_some] <;> rfl), by repeat (first | (with_reducible first | exact HB.out | apply below_alloc | apply pw_below_drewN | apply below_drew1 | refine below_set ?_ GE167.out) | exact HB.out)⟩

end Go.Proofs.Ytakchpeohmkpkaa.Q

namespace Go.Proofs.Ytakchpeohmkpkaa.Q
open Go.RowKit Go.Proofs.YtakchpeohmkpkaaW.PrintWords
set_option linter.unusedVariables false
set_option linter.unusedSimpArgs false

def u8_ (x : Int) : UInt8 := UInt8.ofNat x.toNat
theorem u8_nat {x : Int} (h0 : 0 ≤ x) (h1 : x < 256) : ((u8_ x).toNat : Int) = x := by
  unfold u8_
  rw [UInt8.toNat_ofNat']
  omega
theorem u8_eq {a b : Int} (ha : 0 ≤ a ∧ a < 256) (hb : 0 ≤ b ∧ b < 256) : (u8_ a = u8_ b) ↔ a = b := by
  rw [← UInt8.toNat_inj]
  have := u8_nat ha.1 ha.2
  have := u8_nat hb.1 hb.2
  omega
theorem app_list (a b : ByteArray) : (a ++ b).toList = a.toList ++ b.toList := by
  rw [Lib.toList_data, Lib.toList_data, Lib.toList_data]
  simp
theorem str_list (xs : List Int) : (strOfNums xs).toList = xs.map u8_ := by
  rw [Lib.toList_data, strOfNums_data]
  rfl
def hi (x : Int) : Int := x / 256 % 256
def lo (x : Int) : Int := x % 256
theorem two_ok (x : Int) : ∃ b, node_two.f x = some b ∧ b.toList = [u8_ (hi x), u8_ (lo x)] ∧ b.size = 2 := by
  refine ⟨_, rfl, ?_, ?_⟩
  · rw [str_list]; rfl
  · rw [strOfNums_size]; rfl
theorem key_ok (x k : Int) (h0 : 0 ≤ k) (h1 : k < 256) : ∃ b, node_key.f x k = some b ∧ b.toList = [u8_ (hi x), u8_ (lo x), u8_ k] ∧ b.size = 3 := by
  obtain ⟨t, ht, hl, hs⟩ := two_ok x
  unfold node_key.f
  rw [ht, Option.bind_some, Option.bind_some, strOfNums_size]
  rw [if_pos (by rw [hs]; simp)]
  refine ⟨_, rfl, ?_, ?_⟩
  · rw [app_list, hl, str_list]
    simp
    rw [show k % 256 = k from by omega]
  · rw [ByteArray.size_append, hs, strOfNums_size]; rfl
theorem entry_ok (x : Int) (a : ByteArray) (h : a.size ≤ 140737488355328) : ∃ b, node_EntryKey.f x a = some b ∧ b.toList = u8_ (hi x) :: u8_ (lo x) :: u8_ 2 :: a.toList := by
  obtain ⟨t, ht, hl, hs⟩ := key_ok x 2 (by omega) (by omega)
  unfold node_EntryKey.f
  rw [ht, Option.bind_some, if_pos (by omega)]
  exact ⟨_, rfl, by rw [app_list, hl]; rfl⟩
theorem block_ok (x y : Int) : ∃ b, node_BlockKey.f x y = some b ∧ b.toList = [u8_ (hi x), u8_ (lo x), u8_ 3, u8_ (hi y), u8_ (lo y)] := by
  obtain ⟨t, ht, hl, hs⟩ := key_ok x 3 (by omega) (by omega)
  obtain ⟨v, hv, hm, hz⟩ := two_ok y
  unfold node_BlockKey.f
  rw [ht, Option.bind_some, hv, Option.bind_some, if_pos (by omega)]
  exact ⟨_, rfl, by rw [app_list, hl, hm]; rfl⟩
theorem orphan_ok (x : Int) : ∃ b, node_OrphanKey.f x = some b ∧ b.toList = [u8_ 0, u8_ 0, u8_ 4, u8_ (hi x), u8_ (lo x)] := by
  obtain ⟨v, hv, hm, hz⟩ := two_ok x
  unfold node_OrphanKey.f
  rw [hv, Option.bind_some, if_pos (by omega)]
  exact ⟨_, rfl, by rw [app_list, hm, Lib.toList_data]; rfl⟩
set_option maxRecDepth 100000 in
theorem alive_true : pumicelaw06_alive.f = some true := by decide +kernel
end Go.Proofs.Ytakchpeohmkpkaa.Q

namespace Go.Proofs.Ytakchpeohmkpkaa.Sep
open Go.RowKit Go.Proofs.YtakchpeohmkpkaaW.PrintWords Go.Proofs.YtakchpeohmkpkaaW.PrintLast
set_option linter.unusedVariables false
set_option linter.unusedSimpArgs false

/-- A block of cells. -/
@[reducible] def Cl (cs : List Value) (t : TypeId) (fz : Nat × Nat := (0, 0)) : Obj := .cells cs.toArray t fz
abbrev Frag := List (Nat × Obj)
/-- Since w0 nothing old has turned; these blocks are the call's own, and hold this. -/
structure Holds (w0 w : World) (H : Frag) : Prop where
  below : Below w0.heap.size w0 w
  has : ∀ x, x ∈ H → w.heap[x.1]? = some x.2
  low : ∀ x, x ∈ H → w0.heap.size ≤ x.1
  nodup : (H.map Prod.fst).Nodup
namespace Holds
variable {w0 w w1 : World} {H H' : Frag}
theorem start (w : World) : Holds w w [] := ⟨Below.refl _ _, by simp, by simp, by simp⟩
theorem lt (h : Holds w0 w H) {x : Nat × Obj} (hx : x ∈ H) : x.1 < w.heap.size := (Array.getElem?_eq_some_iff.1 (h.has x hx)).1
theorem call (h : Holds w0 w H) (hb : Below w.heap.size w w1) : Holds w0 w1 H :=
  ⟨h.below.trans (hb.mono h.below.size), fun x hx => (hb.block x.1 (h.lt hx)).trans (h.has x hx), h.low, h.nodup⟩
theorem drew (h : Holds w0 w H) : Holds w0 w.drew H := ⟨h.below.drew, h.has, h.low, h.nodup⟩
theorem drewN (h : Holds w0 w H) (n : Nat) : Holds w0 (w.drewN n) H := ⟨pw_below_drewN h.below n, h.has, h.low, h.nodup⟩
/-- Draws apart, the same world. -/
theorem any (h : Holds w0 w H) (h1 : w1.heap = w.heap) (h2 : w1.os = w.os) (h3 : w1.tape = w.tape) (h4 : w1.output = w.output) : Holds w0 w1 H :=
  ⟨⟨h2.trans h.below.os, h3.trans h.below.tape, h4.trans h.below.output, by rw [h1]; exact h.below.size, fun k hk => by rw [h1]; exact h.below.block k hk⟩, fun x hx => by rw [h1]; exact h.has x hx, h.low, h.nodup⟩
theorem call1 {w2 : World} (h : Holds w0 w H) (hb : Below w1.heap.size w1 w2) (h1 : w1.heap = w.heap) (h2 : w1.os = w.os) (h3 : w1.tape = w.tape) (h4 : w1.output = w.output) : Holds w0 w2 H := (h.any h1 h2 h3 h4).call hb
theorem alloc (h : Holds w0 w H) (o : Obj) : Holds w0 (w.alloc o) ((w.heap.size, o) :: H) := by
  refine ⟨h.below.alloc h.below.size o, ?_, ?_, ?_⟩
  · intro x hx
    rcases List.mem_cons.1 hx with rfl | hx
    · show (w.heap.push o)[w.heap.size]? = _
      simp
    · rw [Below.heap_alloc w o x.1 (h.lt hx)]
      exact h.has x hx
  · intro x hx
    rcases List.mem_cons.1 hx with rfl | hx
    · exact h.below.size
    · exact h.low x hx
  · simp only [List.map_cons, List.nodup_cons]
    refine ⟨fun hm => ?_, h.nodup⟩
    obtain ⟨x, hx, he⟩ := List.mem_map.1 hm
    have := h.lt hx
    omega
/-- A block is changed. -/
theorem put {b : Nat} {o : Obj} (h : Holds w0 w ((b, o) :: H)) (o' : Obj) : Holds w0 { w with heap := w.heap.setIfInBounds b o' } ((b, o') :: H) := by
  have hlt : b < w.heap.size := h.lt (x := (b, o)) List.mem_cons_self
  have hlow : w0.heap.size ≤ b := h.low (b, o) List.mem_cons_self
  have hnd := h.nodup
  simp only [List.map_cons, List.nodup_cons] at hnd
  refine ⟨?_, ?_, ?_, ?_⟩
  · refine ⟨h.below.os, h.below.tape, h.below.output, by simpa using h.below.size, fun k hk => ?_⟩
    have : b ≠ k := by omega
    simp only [Array.getElem?_setIfInBounds, this, if_false]
    exact h.below.block k hk
  · intro x hx
    rcases List.mem_cons.1 hx with rfl | hx
    · simp [hlt]
    · have hne : b ≠ x.1 := fun e => hnd.1 (e ▸ List.mem_map_of_mem hx)
      simp only [Array.getElem?_setIfInBounds, hne, if_false]
      exact h.has x (List.mem_cons_of_mem _ hx)
  · intro x hx
    rcases List.mem_cons.1 hx with rfl | hx
    · exact hlow
    · exact h.low x (List.mem_cons_of_mem _ hx)
  · simpa using hnd
theorem perm (h : Holds w0 w H) (hp : List.Perm H H') : Holds w0 w H' :=
  ⟨h.below, fun x hx => h.has x (hp.mem_iff.2 hx), fun x hx => h.low x (hp.mem_iff.2 hx), (hp.map _).nodup_iff.1 h.nodup⟩
theorem perm_front : ∀ (H : Frag) (k : Nat) (hk : k < H.length), List.Perm H (H[k] :: H.eraseIdx k)
  | x :: H, 0, _ => by simp
  | x :: H, k + 1, hk => by
    have := perm_front H k (by simpa using hk)
    simp only [List.getElem_cons_succ, List.eraseIdx_cons_succ]
    exact (this.cons x).trans (List.Perm.swap _ _ _)
/-- Number k first. -/
theorem front (h : Holds w0 w H) (k : Nat) (hk : k < H.length) : Holds w0 w (H[k] :: H.eraseIdx k) :=
  h.perm (perm_front H k hk)
/-- Block b holds o in the first list, o' in the second; else they are one. -/
inductive At (b : Nat) (o o' : Obj) : Frag → Frag → Prop where
  | here {H : Frag} : At b o o' ((b, o) :: H) ((b, o') :: H)
  | there {x : Nat × Obj} {H H' : Frag} (h : At b o o' H H') : At b o o' (x :: H) (x :: H')
theorem At.perm {b : Nat} {o o' : Obj} {H H' : Frag} (h : At b o o' H H') : ∃ R, List.Perm H ((b, o) :: R) ∧ List.Perm H' ((b, o') :: R) := by
  induction h with
  | here => exact ⟨_, List.Perm.refl _, List.Perm.refl _⟩
  | there h ih =>
    obtain ⟨R, h1, h2⟩ := ih
    exact ⟨_ :: R, (h1.cons _).trans (List.Perm.swap _ _ _), (h2.cons _).trans (List.Perm.swap _ _ _)⟩
theorem At.mem {b : Nat} {o o' : Obj} {H H' : Frag} (h : At b o o' H H') : (b, o) ∈ H := by
  obtain ⟨R, h1, _⟩ := h.perm
  exact h1.mem_iff.2 List.mem_cons_self
theorem repl {b : Nat} {o o' : Obj} (h : Holds w0 w H) (ha : At b o o' H H') : Holds w0 { w with heap := w.heap.setIfInBounds b o' } H' := by
  obtain ⟨R, h1, h2⟩ := ha.perm
  exact ((h.perm h1).put o').perm h2.symm
/-- Less. -/
theorem sub (h : Holds w0 w H) (hs : List.Sublist H' H) : Holds w0 w H' :=
  ⟨h.below, fun x hx => h.has x (hs.subset hx), fun x hx => h.low x (hs.subset hx), (hs.map _).nodup h.nodup⟩
theorem tail {x : Nat × Obj} (h : Holds w0 w (x :: H)) : Holds w0 w H := h.sub (List.sublist_cons_self _ _)
theorem right (h : Holds w0 w (H' ++ H)) : Holds w0 w H := h.sub (List.sublist_append_right _ _)
theorem left (h : Holds w0 w (H ++ H')) : Holds w0 w H := h.sub (List.sublist_append_left _ _)
theorem cell (h : Holds w0 w H) {b : Nat} {cs : List Value} {t : TypeId} {fz : Nat × Nat} (hm : (b, Cl cs t fz) ∈ H) {i : Nat} {v : Value} (hv : cs[i]? = some v) : w.cell? ⟨b, i, none⟩ = some v := by
  have := h.has _ hm
  simp only at this
  simp [World.cell?, this, hv]
theorem blk (h : Holds w0 w H) {b : Nat} {cs : List Value} {t : TypeId} {fz : Nat × Nat} (hm : (b, Cl cs t fz) ∈ H) : w.heap[b]? = some (.cells cs.toArray t fz) := h.has _ hm
theorem frozen (h : Holds w0 w H) {b : Nat} {cs : List Value} {t : TypeId} (hm : (b, Cl cs t) ∈ H) (i : Nat) : w.frozen? ⟨b, i, none⟩ = false := by
  have := h.has _ hm
  simp only at this
  simp [World.frozen?, this]
theorem setCell_eq {b i : Nat} {cs : List Value} {t : TypeId} {fz : Nat × Nat} {v : Value} (hb : w.heap[b]? = some (Cl cs t fz)) : w.setCell ⟨b, i, none⟩ v = { w with heap := w.heap.setIfInBounds b (Cl (cs.set i v) t fz) } := by
  unfold World.setCell
  congr 1
  apply Array.ext_getElem?
  intro j
  simp only [Array.getElem?_modify, Array.getElem?_setIfInBounds]
  by_cases hj : b = j
  · subst hj
    obtain ⟨hlt, he⟩ := Array.getElem?_eq_some_iff.1 hb
    simp [hlt, he]
  · simp [hj]
theorem set {b : Nat} {cs : List Value} {t : TypeId} {fz : Nat × Nat} (h : Holds w0 w ((b, Cl cs t fz) :: H)) (i : Nat) (v : Value) : Holds w0 (w.setCell ⟨b, i, none⟩ v) ((b, Cl (cs.set i v) t fz) :: H) := by
  rw [setCell_eq (h.has _ List.mem_cons_self)]
  exact h.put _
end Holds

/-- Block x stands somewhere; R: the others. -/
inductive Front (x : Nat × Obj) : Frag → Frag → Prop where
  | here {H : Frag} : Front x (x :: H) H
  | there {y : Nat × Obj} {H R : Frag} (h : Front x H R) : Front x (y :: H) (y :: R)
theorem Front.perm {x : Nat × Obj} {H R : Frag} (h : Front x H R) : List.Perm H (x :: R) := by
  induction h with
  | here => exact List.Perm.refl _
  | there h ih => exact (ih.cons _).trans (List.Perm.swap _ _ _)
/-! ### Loads and stores, run -/
def aggD : TypeDesc → Bool | .struct _ | .array _ _ => true | _ => false
def oneB (P : Program) (t : TypeId) : Bool := match P.underlying t with | some u => !aggD u | none => false
def manyB (P : Program) (t : TypeId) (n : Nat) : Bool := (match P.underlying t with | some u => aggD u | none => false) && (P.info? t).map (·.size) == some n
def aggB (P : Program) (t : TypeId) : Bool := match P.underlying t with | some u => aggD u | none => false
theorem manyB_of {P : Program} {t : TypeId} {n : Nat} (h : aggB P t = true) (hn : (P.info? t).map (·.size) = some n) : manyB P t n = true := by
  unfold manyB
  unfold aggB at h
  rw [h, hn]
  simp
section
variable {P : Program} {w : World}
theorem run_isAgg_one {t : TypeId} (h : oneB P t = true) : (isAgg t).run P w = .ok false w := by
  unfold oneB at h
  cases hu : P.underlying t with
  | none => simp [hu] at h
  | some u =>
    simp only [hu, Bool.not_eq_true'] at h
    cases u <;> simp [aggD] at h <;> simp [isAgg, run_underlying hu]
theorem run_isAgg_many {t : TypeId} {n : Nat} (h : manyB P t n = true) : (isAgg t).run P w = .ok true w := by
  unfold manyB at h
  cases hu : P.underlying t with
  | none => simp [hu] at h
  | some u =>
    simp only [hu, Bool.and_eq_true] at h
    cases u <;> simp [aggD] at h <;> simp [isAgg, run_underlying hu]
theorem size_many {t : TypeId} {n : Nat} (h : manyB P t n = true) : (P.info? t).map (·.size) = some n := by
  unfold manyB at h
  simp only [Bool.and_eq_true, beq_iff_eq] at h
  exact h.2
theorem run_sizeOf_many {t : TypeId} {n : Nat} (h : manyB P t n = true) : (sizeOf t).run P w = .ok n w := by
  obtain ⟨i, hi, hn⟩ := Option.map_eq_some_iff.1 (size_many h)
  simp [sizeOf, typeInfo, hi, hn]
theorem run_loadVar_one {t : TypeId} {ad : Addr} {v : Value} (h : oneB P t = true) (hc : w.cell? ad = some v) : (loadVar t ad).run P w = .ok v w := by
  unfold loadVar
  simp only [Sem.run_bind, run_isAgg_one h, Result.andThen_ok, Bool.false_eq_true, if_false]
  simp [hc]
theorem run_loadVar_many {t : TypeId} {n : Nat} {b i : Nat} {cs : List Value} {ty : TypeId} {fz : Nat × Nat} (h : manyB P t n = true) (hb : w.heap[b]? = some (Cl cs ty fz)) (vs : List Value) (hv : (cs.drop i).take n = vs) (hl : vs.length = n) :
    (loadVar t ⟨b, i, none⟩).run P w = .ok (.agg vs.toArray) w := by
  unfold loadVar
  have hload : (loadCells ⟨b, i, none⟩ n).run P w = .ok vs.toArray w := by
    have := run_loadCells_list (P := P) w ⟨b, i, none⟩ vs (fun j v hj => by
      have hjn : j < n := by
        rw [← hl]
        exact (List.getElem?_eq_some_iff.1 hj).1
      have hcv : cs[i + j]? = some v := by
        rw [← hv, List.getElem?_take, if_pos hjn, List.getElem?_drop] at hj
        exact hj
      have hadd : (⟨b, i, none⟩ : Addr).add j = ⟨b, i + j, none⟩ := by unfold Addr.add; split <;> simp_all
      rw [hadd]
      simp [World.cell?, hb, hcv])
    rw [hl] at this
    exact this
  simp only [Sem.run_bind, run_isAgg_many h, Result.andThen_ok, if_true, run_sizeOf_many h, hload, Sem.run_pure]
/-- The cells of a block, some of them turned. -/
def splice (cs : List Value) (i : Nat) : List Value → List Value
  | [] => cs
  | v :: vs => splice (cs.set i v) (i + 1) vs
theorem run_storeCells (b : Nat) (ty : TypeId) : ∀ (vs : List Value) (w : World) (cs : List Value) (i k : Nat), w.heap[b]? = some (Cl cs ty) → (∀ v, v ∈ vs → v.oneCell' = true) → i + k + vs.length ≤ cs.length →
    (storeCells ⟨b, i, none⟩ vs k).run P w = .ok () { w with heap := w.heap.setIfInBounds b (Cl (splice cs (i + k) vs) ty) } := by
  intro vs
  induction vs with
  | nil =>
    intro w cs i k hb h1 hl
    have : ({ w with heap := w.heap.setIfInBounds b (Cl (splice cs (i + k) []) ty) } : World) = w := by
      have he : w.heap.setIfInBounds b (Cl cs ty) = w.heap := by
        apply Array.ext_getElem?
        intro j
        simp only [Array.getElem?_setIfInBounds]
        by_cases hj : b = j
        · subst hj
          obtain ⟨hlt, he⟩ := Array.getElem?_eq_some_iff.1 hb
          simp [hlt, he]
        · simp [hj]
      simp only [splice]
      rw [he]
    rw [this]
    simp [storeCells]
  | cons v vs ih =>
    intro w cs i k hb h1 hl
    simp only [List.length_cons] at hl
    have hadd : (⟨b, i, none⟩ : Addr).add k = ⟨b, i + k, none⟩ := by unfold Addr.add; split <;> simp_all
    have hik : i + k < cs.length := by omega
    have hc : w.cell? ⟨b, i + k, none⟩ = some cs[i + k] := by simp [World.cell?, hb, hik]
    have hf : w.frozen? ⟨b, i + k, none⟩ = false := by simp [World.frozen?, hb]
    have hblt : b < w.heap.size := (Array.getElem?_eq_some_iff.1 hb).1
    have ih' := ih { w with heap := w.heap.setIfInBounds b (Cl (cs.set (i + k) v) ty) } (cs.set (i + k) v) i (k + 1) (by simp [hblt]) (fun u hu => h1 u (List.mem_cons_of_mem _ hu)) (by simp; omega)
    simp only [storeCells, hadd, Sem.run_bind, run_store P w _ v _ (h1 v List.mem_cons_self)]
    simp only [hc, hf, Bool.false_eq_true, if_false, Result.andThen_ok]
    rw [Holds.setCell_eq hb, ih']
    simp [splice, Nat.add_assoc]
theorem run_storeVar_blk {t : TypeId} {n b i : Nat} {cs : List Value} {ty : TypeId} {v : Value} (hn : (P.info? t).map (·.size) = some n) (hb : w.heap[b]? = some (Cl cs ty)) (vs : List Value) (hvs : v.cells = vs.toArray) (hl : vs.length = n) (h1 : ∀ u, u ∈ vs → u.oneCell' = true) (hi : i + n ≤ cs.length) :
    (storeVar t ⟨b, i, none⟩ v).run P w = .ok () { w with heap := w.heap.setIfInBounds b (Cl (splice cs i vs) ty) } := by
  obtain ⟨inf, hinf, hsz⟩ := Option.map_eq_some_iff.1 hn
  have := run_storeCells (P := P) b ty vs w cs i 0 hb h1 (by omega)
  simp only [Nat.add_zero] at this
  unfold storeVar
  simp [sizeOf, typeInfo, hinf, hsz, hvs, hl, this]
end

/-! ### The end of a call: its results -/
section
variable {P : Program} {w0 w : World} {H : Frag} {tmps : Array Value}
theorem vcell (HH : Holds w0 w H) {p : Tmp} {ty : TypeId} {rs : List ResultVar} {vs : List Value} {b : Nat} {cs : List Value} {t : TypeId} {fz : Nat × Nat} (hp : tmps.getD p undef = .pointer (some ⟨b, 0, none⟩)) (hm : (b, Cl cs t fz) ∈ H) (hag : aggB P ty = true) (hi : (P.info? ty).map (·.size) = some cs.length) (hvs : Vals P tmps w rs vs) : Vals P tmps w (.cell p ty :: rs) (.agg cs.toArray :: vs) := by
  unfold aggB at hag
  cases hu : P.underlying ty with
  | none => simp [hu] at hag
  | some d =>
    refine .cell b t cs.toArray fz d hp (HH.blk hm) hu ?_ (by simpa using hi) hvs
    simp only [hu] at hag
    cases d <;> simp [aggD] at hag <;> rfl
theorem end_list {fn : Func} (rs : List ResultVar) {vs : List Value} {a : Act} {R : Ending → World → Prop} (hres : fn.results = rs.toArray) (hd : a.defers = []) (hvs : Vals P a.tmps w rs vs) (hl : vs.length ≠ 1) (hR : R (.returned (.tuple vs.toArray)) w) : bodyPost P fn R .ret a w :=
  bodyPost_ret (results_list hres hl hvs) hd hR
end
/-! ### The operations, with what is held -/
section
variable {P : Program} {ops : Array Oper} {Q : Exit → Act → World → Prop} {rest : List Oper} {o : Oper} {a : Act} {W w0 : World} {H : Frag}
theorem wpList_value {w1 : World} {v : Value} (hw : Region.wanted o (yielded ops a.tmps) = true) (hr : (execOp a.eval o).run P W = .ok (.value v) w1) (k : wpList P ops Q rest (a.put o.dst v) w1) : wpList P ops Q (o :: rest) a W :=
  wpList_step fun K hK => by
    rw [if_pos hw]
    unfold Oper.wp
    rw [hr]
    exact hK _ _ k
theorem wpList_none {w1 : World} (hw : Region.wanted o (yielded ops a.tmps) = true) (hr : (execOp a.eval o).run P W = .ok .skip w1) (k : wpList P ops Q rest (a.put o.dst undef) w1) : wpList P ops Q (o :: rest) a W :=
  wpList_step fun K hK => by
    rw [if_pos hw]
    unfold Oper.wp
    rw [hr]
    exact hK _ _ k
/-- A load of one cell, run. -/
theorem run_load1 {t : TypeId} {x : Operand} {ad : Addr} {v : Value} (hop : o.op = .load t x) (ht : oneB P t = true) (hx : a.eval x = .pointer (some ad)) (hc : W.cell? ad = some v) : (execOp a.eval o).run P W = .ok (.value v) W := by
  unfold execOp
  simp [hop, hx, Instr.loadAt, Instr.sureAddr, run_loadVar_one ht hc]
theorem run_loadN {t : TypeId} {x : Operand} {n b i : Nat} {cs vs : List Value} {ty : TypeId} {fz : Nat × Nat} (hop : o.op = .load t x) (ht : manyB P t n = true) (hx : a.eval x = .pointer (some ⟨b, i, none⟩)) (hb : W.heap[b]? = some (Cl cs ty fz)) (hv : (cs.drop i).take n = vs) (hl : vs.length = n) : (execOp a.eval o).run P W = .ok (.value (.agg vs.toArray)) W := by
  unfold execOp
  simp [hop, hx, Instr.loadAt, Instr.sureAddr, run_loadVar_many ht hb vs hv hl]
theorem run_box {t : TypeId} {x : Operand} {cs : List Value} (hop : o.op = .box t x) (hx : (a.eval x).cells = cs.toArray) : (execOp a.eval o).run P W = .ok (.value (.pointer (some ⟨W.heap.size, 0, none⟩))) (W.alloc (Cl cs t)) := by
  unfold execOp
  simp [hop, Instr.box, newVar, newRow, hx]
theorem run_alloc {t : TypeId} {z : Value} {cs : List Value} (hop : o.op = .alloc t) (hz : (zeroValue t).run P W = .ok z W) (hx : z.cells = cs.toArray) : (execOp a.eval o).run P W = .ok (.value (.pointer (some ⟨W.heap.size, 0, none⟩))) (W.alloc (Cl cs t)) := by
  unfold execOp
  simp [hop, Instr.alloc, hz, newVar, newRow, hx]
theorem run_storeN {t : TypeId} {x y : Operand} {n b i : Nat} {cs vs : List Value} {ty : TypeId} (hop : o.op = .store t x y) (hn : (P.info? t).map (·.size) = some n) (hx : a.eval x = .pointer (some ⟨b, i, none⟩)) (hb : W.heap[b]? = some (Cl cs ty)) (hy : (a.eval y).cells = vs.toArray) (hl : vs.length = n) (h1 : ∀ u, u ∈ vs → u.oneCell' = true) (hi : i + n ≤ cs.length) :
    (execOp a.eval o).run P W = .ok .skip { W with heap := W.heap.setIfInBounds b (Cl (splice cs i vs) ty) } := by
  unfold execOp
  simp [hop, hx, Instr.storeAt, Instr.sureAddr, run_storeVar_blk hn hb vs hy hl h1 hi]

section
variable {d : Option Tmp} {tp : TypeId} {ps : String} {af : Array Edge} {gd : Option (Nat × Bool)}
theorem load1_ (HH : Holds w0 W H) {t : TypeId} {x : Operand} {b i : Nat} {cs : List Value} {ty : TypeId} {fz : Nat × Nat} {v : Value} (ht : oneB P t = true) (hx : a.eval x = .pointer (some ⟨b, i, none⟩)) (hw : Region.wanted ⟨d, .load t x, tp, ps, af, gd⟩ (yielded ops a.tmps) = true)
    (hm : (b, Cl cs ty fz) ∈ H) (hv : cs[i]? = some v) (k : wpList P ops Q rest (a.put d v) W) : wpList P ops Q (⟨d, .load t x, tp, ps, af, gd⟩ :: rest) a W :=
  wpList_value hw (run_load1 rfl ht hx (HH.cell hm hv)) k
theorem loadN_ (HH : Holds w0 W H) {t : TypeId} {x : Operand} {n b i : Nat} {cs vs : List Value} {ty : TypeId} {fz : Nat × Nat} (ht : aggB P t = true) (hn : (P.info? t).map (·.size) = some n) (hx : a.eval x = .pointer (some ⟨b, i, none⟩)) (hw : Region.wanted ⟨d, .load t x, tp, ps, af, gd⟩ (yielded ops a.tmps) = true)
    (hm : (b, Cl cs ty fz) ∈ H) (hv : (cs.drop i).take n = vs) (hl : vs.length = n) (k : wpList P ops Q rest (a.put d (.agg vs.toArray)) W) : wpList P ops Q (⟨d, .load t x, tp, ps, af, gd⟩ :: rest) a W :=
  wpList_value hw (run_loadN rfl (manyB_of ht hn) hx (HH.has _ hm) hv hl) k
theorem box_ (HH : Holds w0 W H) {t : TypeId} {x : Operand} {cs : List Value} (hw : Region.wanted ⟨d, .box t x, tp, ps, af, gd⟩ (yielded ops a.tmps) = true) {v : Value} (hev : a.eval x = v) (hy : v.cells = cs.toArray)
    (k : ∀ b w1, Holds w0 w1 ((b, Cl cs t) :: H) → wpList P ops Q rest (a.put d (.pointer (some ⟨b, 0, none⟩))) w1) : wpList P ops Q (⟨d, .box t x, tp, ps, af, gd⟩ :: rest) a W :=
  wpList_value hw (run_box rfl (hev ▸ hy)) (k _ _ (HH.alloc _))
theorem alloc_ (HH : Holds w0 W H) {t : TypeId} {z : Value} {cs : List Value} (hw : Region.wanted ⟨d, .alloc t, tp, ps, af, gd⟩ (yielded ops a.tmps) = true) (hz : (P.info? t).bind (·.zero) = some z) (hx : z.cells = cs.toArray)
    (k : ∀ b w1, Holds w0 w1 ((b, Cl cs t) :: H) → wpList P ops Q rest (a.put d (.pointer (some ⟨b, 0, none⟩))) w1) : wpList P ops Q (⟨d, .alloc t, tp, ps, af, gd⟩ :: rest) a W := by
  refine wpList_value hw (run_alloc rfl ?_ hx) (k _ _ (HH.alloc _))
  obtain ⟨i, hi, hzz⟩ := Option.bind_eq_some_iff.1 hz
  simp [zeroValue, typeInfo, hi, hzz]
/-- A store, of one cell or of several, into a block that is held. -/
theorem store_ (HH : Holds w0 W H) {t : TypeId} {x y : Operand} {n b i : Nat} {cs vs : List Value} {ty : TypeId} {H' : Frag} (hw : Region.wanted ⟨none, .store t x y, tp, ps, af, gd⟩ (yielded ops a.tmps) = true) (hx : a.eval x = .pointer (some ⟨b, i, none⟩))
    {v : Value} (hev : a.eval y = v) (hy : v.cells = vs.toArray) (hn : (P.info? t).map (·.size) = some n) (hm : Holds.At b (Cl cs ty) (Cl (splice cs i vs) ty) H H') (hl : vs.length = n) (h1 : ∀ u, u ∈ vs → u.oneCell' = true) (hi : i + n ≤ cs.length)
    (k : ∀ w1, Holds w0 w1 H' → wpList P ops Q rest a w1) : wpList P ops Q (⟨none, .store t x y, tp, ps, af, gd⟩ :: rest) a W := by
  subst hev
  exact wpList_none hw (run_storeN rfl hn hx (HH.has _ hm.mem) hy hl h1 hi) (k _ (HH.repl hm))
end
end
end Go.Proofs.Ytakchpeohmkpkaa.Sep

namespace Go.Proofs.Ytakchpeohmkpkaa.Sep
open Go.RowKit Go.Proofs.YtakchpeohmkpkaaW.PrintWords Go.Proofs.YtakchpeohmkpkaaW.PrintLast
set_option linter.unusedVariables false
set_option linter.unusedSimpArgs false
/-- The row at A reads as_ xs. -/
def Src {α : Type} (enc : α → Value) (w0 : World) (H : Frag) (A : Option Addr) (xs : List α) : Prop :=
  xs = [] ∨ ∃ b off, A = some ⟨b, off, none⟩ ∧ ((b < w0.heap.size ∧ ∀ j x, xs[j]? = some x → w0.cell? ⟨b, off + j, none⟩ = some (enc x)) ∨ ∃ cs t fz, (b, Cl cs t fz) ∈ H ∧ ∀ j x, xs[j]? = some x → cs[off + j]? = some (enc x))
theorem add_at (b off j : Nat) : (⟨b, off, none⟩ : Addr).add j = ⟨b, off + j, none⟩ := by unfold Addr.add; split <;> simp_all
section
variable {α : Type} {enc : α → Value} {w0 w : World} {H H' : Frag} {A : Option Addr} {xs : List α}
theorem Src.nil (A : Option Addr) : Src enc w0 H A [] := .inl rfl
theorem Src.mono (h : Src enc w0 H A xs) (hs : ∀ x, x ∈ H → x ∈ H') : Src enc w0 H' A xs := by
  rcases h with h | ⟨b, off, hA, h | ⟨cs, t, fz, hm, hc⟩⟩
  · exact .inl h
  · exact .inr ⟨b, off, hA, .inl h⟩
  · exact .inr ⟨b, off, hA, .inr ⟨cs, t, fz, hs _ hm, hc⟩⟩
theorem Src.cell (h : Src enc w0 H A xs) (HH : Holds w0 w H) {j : Nat} {x : α} (hx : xs[j]? = some x) : ∃ b off, A = some ⟨b, off, none⟩ ∧ w.cell? ⟨b, off + j, none⟩ = some (enc x) := by
  rcases h with h | ⟨b, off, hA, ⟨hb, h⟩ | ⟨cs, t, fz, hm, hc⟩⟩
  · subst h
    simp at hx
  · exact ⟨b, off, hA, (HH.below.cell (p := ⟨b, off + j, none⟩) hb).trans (h j x hx)⟩
  · exact ⟨b, off, hA, HH.cell hm (hc j x hx)⟩
theorem Src.C {h1 : ∀ x, (enc x).oneCell' = true} (h : Src enc w0 H A xs) (HH : Holds w0 w H) (hl : xs.length ≤ 9223372036854775807) : (Kd.scalar enc h1).C w A xs.length xs := by
  refine ⟨rfl, hl, fun hn => ?_⟩
  obtain ⟨b, off, hA, hc⟩ := h.cell HH (List.getElem?_eq_getElem hn)
  refine ⟨_, hA, fun j p hp => ⟨[enc p], rfl, rfl, fun i u hu => ?_⟩⟩
  have hi : i = 0 := by
    have := (List.getElem?_eq_some_iff.1 hu).1
    simp at this
    omega
  subst hi
  simp at hu
  subst hu
  obtain ⟨b', off', hA', hc'⟩ := h.cell HH hp
  rw [hA] at hA'
  cases hA'
  rw [add_at]
  simpa [Kd.scalar] using hc'
theorem Src.of_C {h1 : ∀ x, (enc x).oneCell' = true} (h : (Kd.scalar enc h1).C w0 A xs.length xs) : Src enc w0 H A xs := by
  obtain ⟨_, hl, hc⟩ := h
  cases xs with
  | nil => exact .inl rfl
  | cons y ys =>
    obtain ⟨ad, hA, hc⟩ := hc (by simp)
    have hcell : ∀ j x, (y :: ys)[j]? = some x → w0.cell? (ad.add j) = some (enc x) := by
      intro j x hx
      obtain ⟨c, hcl, hr, hcc⟩ := hc j x hx
      have hr' : c = [enc x] := hr
      subst hr'
      have := hcc 0 _ rfl
      simpa [Kd.scalar] using this
    have h0 := hcell 0 y rfl
    obtain ⟨b, off, sp⟩ := ad
    have hsp : sp = none := by
      have h0' : w0.cell? ⟨b, off, sp⟩ = some (enc y) := h0
      cases sp with
      | none => rfl
      | some s =>
        exfalso
        unfold World.cell? at h0'
        split at h0' <;> simp at h0'
    subst hsp
    refine .inr ⟨b, off, hA, .inl ⟨World.block_lt_of_cell? w0 _ h0, fun j x hx => ?_⟩⟩
    rw [← add_at]
    exact hcell j x hx
theorem Src.take (h : Src enc w0 H A xs) (m : Nat) : Src enc w0 H A (xs.take m) := by
  have hj : ∀ j x, (xs.take m)[j]? = some x → xs[j]? = some x := fun j x hx => by
    rw [List.getElem?_take] at hx
    split at hx
    · exact hx
    · cases hx
  rcases h with h | ⟨b, off, hA, ⟨hb, h⟩ | ⟨cs, t, fz, hm, hc⟩⟩
  · subst h
    exact .inl (by simp)
  · exact .inr ⟨b, off, hA, .inl ⟨hb, fun j x hx => h j x (hj j x hx)⟩⟩
  · exact .inr ⟨b, off, hA, .inr ⟨cs, t, fz, hm, fun j x hx => hc j x (hj j x hx)⟩⟩
theorem Src.drop (h : Src enc w0 H A xs) (m : Nat) : Src enc w0 H (A.map (·.add m)) (xs.drop m) := by
  have hj : ∀ j x, (xs.drop m)[j]? = some x → xs[m + j]? = some x := fun j x hx => by rwa [List.getElem?_drop] at hx
  rcases h with h | ⟨b, off, hA, ⟨hb, h⟩ | ⟨cs, t, fz, hm, hc⟩⟩
  · subst h
    exact .inl (by simp)
  · refine .inr ⟨b, off + m, by rw [hA]; simp [add_at], .inl ⟨hb, fun j x hx => ?_⟩⟩
    have := h (m + j) x (hj j x hx)
    rwa [← Nat.add_assoc] at this
  · refine .inr ⟨b, off + m, by rw [hA]; simp [add_at], .inr ⟨cs, t, fz, hm, fun j x hx => ?_⟩⟩
    have := hc (m + j) x (hj j x hx)
    rwa [← Nat.add_assoc] at this
end
end Go.Proofs.Ytakchpeohmkpkaa.Sep

namespace Go.Proofs.Ytakchpeohmkpkaa.Q
open Go.RowKit Go.Proofs.YtakchpeohmkpkaaW.PrintWords Go.Proofs.YtakchpeohmkpkaaW.PrintLast Go.Proofs.YtakchpeohmkpkaaW.PrintMore Go.Proofs.Ytakchpeohmkpkaa.Sep
set_option linter.unusedVariables false
set_option linter.unusedSimpArgs false
/-- The bytes that a reader hands out, and where it stands then. -/
def nxt (xs : List Int) (at_ k : Nat) : List Int := if at_ + k ≤ xs.length then (xs.drop at_).take k else []
def pos (xs : List Int) (at_ k : Nat) : Nat := if at_ + k ≤ xs.length then at_ + k else xs.length + 1
theorem nxt_le (xs : List Int) (at_ k : Nat) : (nxt xs at_ k).length ≤ k := by unfold nxt; split <;> simp <;> omega
theorem pos_le (xs : List Int) (at_ k : Nat) : pos xs at_ k ≤ xs.length + 1 := by unfold pos; split <;> omega
/-- The block of a reader. -/
@[reducible] def RdB (A : Option Addr) (c : Nat) (xs : List Int) (at_ : Nat) : Obj := Cl [.slice A xs.length c, .int .i64 at_] 76

set_option maxHeartbeats 8000000 in
set_option maxRecDepth 100000 in
theorem next_short (g : Nat) (A : Option Addr) (c at_ k : Nat) (xs : List Int) (w0 w : World) (H : Frag) (HH : Holds w0 w ((g, RdB A c xs at_) :: H)) (hl : xs.length ≤ 281474976710656) (hat : at_ ≤ xs.length + 1) (hk : k ≤ 1048576)
    (hs : ¬ at_ + k ≤ xs.length) : Calls Try.prog 51 #[.pointer (some ⟨g, 0, none⟩), .int .i64 k] w fun e w' => e = .returned (.slice none 0 0) ∧ Holds w0 w' ((g, RdB A c xs (xs.length + 1)) :: H) := by
  have c0 := HH.cell List.mem_cons_self (i := 0) rfl
  have c1 := HH.cell List.mem_cons_self (i := 1) rfl
  have t0 : decide ((k : Int) < 0) = false := by simp
  have s1 : IntKind.i64.wrap ((xs.length : Int) - (at_ : Int)) = (xs.length : Int) - (at_ : Int) := IntWalk.i64_in _ (by omega)
  have t1 : decide ((xs.length : Int) - (at_ : Int) < (k : Int)) = true := decide_eq_true (by omega)
  have HA := Aside0.mk HH
  clear HH
  go_enter Try.func51, Try.ntmps51
  go_wp2
  go_quiet (fail)
  go_wp2_with (first
    | ((with_reducible apply store_); (case HH => first | exact HA.out | exact HA.out.any rfl rfl rfl rfl); (case hw => rfl); (case hx => rfl); (case hev => conv => lhs; whnf); (case hy => rfl); (case hm => repeat (first | exact Holds.At.here | apply Holds.At.there)); (case hl => rfl); (case hn => kernel_rfl); (case h1 => simp [Value.oneCell']); (case hi => simp); intro w1 HB_; simp only [splice, List.set_cons_zero, List.set_cons_succ] at HB_; clear HA; have HA := Aside0.mk HB_; clear HB_))
  go_ret
  exact ⟨rfl, HA.out⟩
set_option maxHeartbeats 8000000 in
set_option maxRecDepth 100000 in
theorem next_fits (g : Nat) (A : Option Addr) (c at_ k : Nat) (xs : List Int) (w0 w : World) (H : Frag) (HH : Holds w0 w ((g, RdB A c xs at_) :: H)) (hl : xs.length ≤ 281474976710656) (hc : xs.length ≤ c) (hat : at_ ≤ xs.length + 1) (hk : k ≤ 1048576)
    (hs : at_ + k ≤ xs.length) : Calls Try.prog 51 #[.pointer (some ⟨g, 0, none⟩), .int .i64 k] w fun e w' => e = .returned (.slice (if c = at_ then A else A.map (·.add at_)) k (c - at_)) ∧ Holds w0 w' ((g, RdB A c xs (at_ + k)) :: H) := by
  have c0 := HH.cell List.mem_cons_self (i := 0) rfl
  have c1 := HH.cell List.mem_cons_self (i := 1) rfl
  have t0 : decide ((k : Int) < 0) = false := by simp
  have s1 : IntKind.i64.wrap ((xs.length : Int) - (at_ : Int)) = (xs.length : Int) - (at_ : Int) := IntWalk.i64_in _ (by omega)
  have t1 : decide ((xs.length : Int) - (at_ : Int) < (k : Int)) = false := decide_eq_false (by omega)
  have HA := Aside0.mk HH
  clear HH
  go_enter Try.func51, Try.ntmps51
  go_wp2
  go_quiet (fail)
  go_wp2_with (first
    | ((with_reducible apply store_); (case HH => first | exact HA.out | exact HA.out.any rfl rfl rfl rfl); (case hw => rfl); (case hx => rfl); (case hev => conv => lhs; whnf); (case hy => rfl); (case hm => repeat (first | exact Holds.At.here | apply Holds.At.there)); (case hl => rfl); (case hn => kernel_rfl); (case h1 => simp [Value.oneCell']); (case hi => simp); intro w1 HB_; simp only [splice, List.set_cons_zero, List.set_cons_succ] at HB_; clear HA; have HA := Aside0.mk HB_; clear HB_)
    | ((with_reducible apply load1_); (case HH => first | exact HA.out | exact HA.out.any rfl rfl rfl rfl); (case ht => rfl); (case hx => rfl); (case hw => rfl); (case hm => repeat (first | exact List.Mem.head _ | refine List.Mem.tail _ ?_)); (case hv => exact rfl); simp only [Act.put, List.setIfInBounds_toArray, List.set_cons_zero, List.set_cons_succ]))
  clear c0 c1
  have c0 := HA.out.cell List.mem_cons_self (i := 0) rfl
  have c1 := HA.out.cell List.mem_cons_self (i := 1) rfl
  go_quiet (fail)
  go_wp2
  all_goals
    go_ret
    refine ⟨?_, ?_⟩
    · rfl
    · have hh := HA.out.drewN nq
      simp only [RdB, Int.natCast_add]
      first
        | exact hh
        | (rw [‹c = at_›] at hh; exact hh)
/-- What next answers. -/
theorem next_calls (g : Nat) (A : Option Addr) (c at_ k : Nat) (xs : List Int) (w0 w : World) (H Hs : Frag) (HH : Holds w0 w ((g, RdB A c xs at_) :: H)) (hl : xs.length ≤ 281474976710656) (hc : xs.length ≤ c) (hat : at_ ≤ xs.length + 1) (hk : k ≤ 1048576) (hs : Src (Value.int .u8) w0 Hs A xs) :
    Calls Try.prog 51 #[.pointer (some ⟨g, 0, none⟩), .int .i64 k] w fun e w' => ∃ A' c', e = .returned (.slice A' (nxt xs at_ k).length c') ∧ (nxt xs at_ k).length ≤ c' ∧ Src (Value.int .u8) w0 Hs A' (nxt xs at_ k) ∧ Holds w0 w' ((g, RdB A c xs (pos xs at_ k)) :: H) := by
  unfold nxt pos
  by_cases h : at_ + k ≤ xs.length
  · simp only [h, if_true]
    refine (next_fits g A c at_ k xs w0 w H HH hl hc hat hk h).mono fun e w' ⟨he, hw⟩ => ⟨if c = at_ then A else A.map (·.add at_), c - at_, ?_, ?_, ?_, hw⟩
    · rw [he]
      have : ((xs.drop at_).take k).length = k := by simp; omega
      rw [this]
    · simp; omega
    · split
      · have hz : (xs.drop at_).take k = [] := by
          have : k = 0 := by omega
          simp [this]
        rw [hz]
        exact Src.nil _
      · exact (hs.drop at_).take k
  · simp only [h, if_false]
    exact (next_short g A c at_ k xs w0 w H HH hl hat hk h).mono fun e w' ⟨he, hw⟩ => ⟨none, 0, he, by simp, Src.nil _, hw⟩
end Go.Proofs.Ytakchpeohmkpkaa.Q

namespace Go.Proofs.Ytakchpeohmkpkaa.Q
open Go.RowKit Go.Proofs.YtakchpeohmkpkaaW.PrintWords Go.Proofs.YtakchpeohmkpkaaW.PrintLast Go.Proofs.YtakchpeohmkpkaaW.PrintMore Go.Proofs.Ytakchpeohmkpkaa.Sep
set_option linter.unusedVariables false
set_option linter.unusedSimpArgs false
/-- The number of bytes, the lowest first. -/
def leVal : List Int → Int
  | [] => 0
  | x :: xs => x + 256 * leVal xs
def Bytes (xs : List Int) : Prop := ∀ x, x ∈ xs → 0 ≤ x ∧ x < 256
theorem Bytes.take {xs : List Int} (h : Bytes xs) (n : Nat) : Bytes (xs.take n) := fun x hx => h x (List.mem_of_mem_take hx)
theorem Bytes.drop {xs : List Int} (h : Bytes xs) (n : Nat) : Bytes (xs.drop n) := fun x hx => h x (List.mem_of_mem_drop hx)
theorem Bytes.nxt {xs : List Int} (h : Bytes xs) (a k : Nat) : Bytes (nxt xs a k) := by
  unfold Q.nxt
  split
  · exact (h.drop a).take k
  · intro x hx
    simp at hx
theorem bytes_of (s : ByteArray) : Bytes (bytesOf s) := by
  intro x hx
  unfold bytesOf at hx
  obtain ⟨b, _, rfl⟩ := List.mem_map.1 hx
  have := b.toNat_lt
  omega
theorem leVal_range : ∀ (xs : List Int), Bytes xs → 0 ≤ leVal xs ∧ leVal xs < (256 : Int) ^ xs.length
  | [], _ => by simp [leVal]
  | x :: xs, h => by
    have h1 := h x List.mem_cons_self
    have h2 := leVal_range xs (fun y hy => h y (List.mem_cons_of_mem _ hy))
    simp only [leVal, List.length_cons, Int.pow_succ]
    omega
theorem leVal_snoc : ∀ (xs : List Int) (x : Int), leVal (xs ++ [x]) = leVal xs + x * (256 : Int) ^ xs.length
  | [], x => by simp [leVal]
  | y :: xs, x => by
    simp only [List.cons_append, leVal, leVal_snoc xs x, List.length_cons, Int.pow_succ, Int.mul_add, Int.add_assoc]
    congr 2
    rw [Int.mul_comm 256, Int.mul_assoc]
theorem wrap_u64 {n : Int} (h0 : 0 ≤ n) (h1 : n < 18446744073709551616) : IntKind.u64.wrap n = n := by
  rw [IntKind.wrap_u64]
  omega
theorem or_u64 (a b j : Nat) (ha : a < 2 ^ j) (hb : b * 2 ^ j < 18446744073709551616) (hj : j < 64) : Go.bits .or .u64 (a : Int) ((b * 2 ^ j : Nat) : Int) = ((a + b * 2 ^ j : Nat) : Int) := by
  have h2j : 2 ^ j ≤ 9223372036854775808 := by
    have := Nat.pow_le_pow_right (n := 2) (by decide) (show j ≤ 63 by omega)
    simpa using this
  have hor : a ||| (b * 2 ^ j) = a + b * 2 ^ j := by
    have := Nat.two_pow_add_eq_or_of_lt (i := j) ha b
    rw [Nat.or_comm, Nat.mul_comm b, ← this]
    omega
  have h1 : (BitVec.ofInt 64 (a : Int)).toNat = a := by
    rw [BitVec.ofInt_natCast, BitVec.toNat_ofNat]; exact Nat.mod_eq_of_lt (by omega)
  have h2 : (BitVec.ofInt 64 ((b * 2 ^ j : Nat) : Int)).toNat = b * 2 ^ j := by
    rw [BitVec.ofInt_natCast, BitVec.toNat_ofNat]; exact Nat.mod_eq_of_lt (by omega)
  have hlt : a ||| (b * 2 ^ j) < 2 ^ 64 := Nat.or_lt_two_pow (by omega) (by omega)
  show IntKind.u64.wrap ((BitVec.ofInt 64 (a : Int) ||| BitVec.ofInt 64 ((b * 2 ^ j : Nat) : Int)).toNat : Int) = _
  rw [BitVec.toNat_or, h1, h2, hor]
  rw [hor] at hlt
  rw [wrap_u64 (by omega) (by omega)]
/-- One round of Get. -/
theorem get_round (a x : Int) (i : Nat) (hi : i < 8) (ha : 0 ≤ a ∧ a < (256 : Int) ^ i) (hx : 0 ≤ x ∧ x < 256) (s : Int) (hs : s = 8 * (i : Int)) : Go.bits .or .u64 a (shl .u64 (IntKind.u64.wrap x) s) = a + x * (256 : Int) ^ i := by
  subst hs
  obtain ⟨an, rfl⟩ := Int.eq_ofNat_of_zero_le ha.1
  obtain ⟨xn, rfl⟩ := Int.eq_ofNat_of_zero_le hx.1
  have hp : (256 : Int) ^ i = ((2 ^ (8 * i) : Nat) : Int) := by
    rw [Nat.pow_mul]
    simp
  rw [wrap_u64 hx.1 (by omega)]
  unfold shl
  have hmin : min (8 * (i : Int)).toNat IntKind.u64.bits = 8 * i := by
    show min (8 * (i : Int)).toNat 64 = 8 * i
    omega
  rw [hmin]
  have hb : xn * 2 ^ (8 * i) < 18446744073709551616 := by
    have h1 : xn ≤ 255 := by omega
    have h2 : 2 ^ (8 * i) ≤ 72057594037927936 := by
      have := Nat.pow_le_pow_right (n := 2) (by decide) (show 8 * i ≤ 56 by omega)
      simpa using this
    have h3 := Nat.mul_le_mul h1 h2
    omega
  have hcast : ((xn : Int) * 2 ^ (8 * i)) = ((xn * 2 ^ (8 * i) : Nat) : Int) := by simp
  rw [hcast, wrap_u64 (by omega) (by omega)]
  have := or_u64 an xn (8 * i) (by rw [hp] at ha; omega) hb (by omega)
  rw [this, hp]
  simp
theorem rd_take (xs : List Int) (i : Nat) (h : i < xs.length) : xs.take (i + 1) = xs.take i ++ [rd xs i] := by
  rw [List.take_succ_eq_append_getElem h]
  simp [rd, List.getD_eq_getElem?_getD, h]
theorem rd_byte {xs : List Int} (h : Bytes xs) (i : Nat) (hi : i < xs.length) : 0 ≤ rd xs i ∧ rd xs i < 256 := by
  have : rd xs i = xs[i] := by simp [rd, List.getD_eq_getElem?_getD, hi]
  rw [this]
  exact h _ (List.getElem_mem hi)
theorem get_loop (xs : List Int) (h : Bytes xs) (m : Nat) (hm : m ≤ xs.length) (hm8 : m ≤ 8) : ∀ (d k i : Nat), m - i = d → i ≤ m → d < k → bits_Get.l0 k xs (leVal (xs.take i)) m i = some (leVal (xs.take m)) := by
  intro d
  induction d with
  | zero =>
    intro k i hd hi hk
    obtain ⟨k, rfl⟩ : ∃ q, k = q + 1 := ⟨k - 1, by omega⟩
    obtain rfl : i = m := by omega
    simp only [bits_Get.l0]
    rw [if_neg (by omega)]
  | succ d ih =>
    intro k i hd hi hk
    obtain ⟨k, rfl⟩ : ∃ q, k = q + 1 := ⟨k - 1, by omega⟩
    simp only [bits_Get.l0]
    have hw : wrap64 (8 * (i : Int)) = 8 * (i : Int) := by unfold wrap64; omega
    have hw2 : wrap64 ((i : Int) + 1) = ((i + 1 : Nat) : Int) := by unfold wrap64; omega
    rw [if_pos (by omega), if_pos (by omega), if_pos (by omega), hw, hw2, if_pos (by omega)]
    have hr := leVal_range (xs.take i) (h.take i)
    have hli : (xs.take i).length = i := by simp; omega
    rw [hli] at hr
    have hstep := get_round (leVal (xs.take i)) (rd xs i) i (by omega) hr (rd_byte h i (by omega)) (8 * (i : Int)) rfl
    have ih' := ih k (i + 1) (by omega) (by omega) (by omega)
    rw [rd_take xs i (by omega), leVal_snoc, hli] at ih'
    rw [hstep]
    exact ih'
theorem get_val (xs : List Int) (h : Bytes xs) (hl : xs.length ≤ 8) : bits_Get.f 9 xs = some (leVal xs) := by
  unfold bits_Get.f
  have hm : mn (xs.length : Int) 8 = (xs.length : Int) := by unfold mn; split <;> omega
  rw [hm]
  have := get_loop xs h xs.length (Nat.le_refl _) hl xs.length 9 0 (by omega) (by omega) (by omega)
  simpa [leVal] using this
theorem rget_loop (xs : List Int) (h : Bytes xs) (hl : xs.length ≤ 8) : ∀ (d k i : Nat), xs.length - i = d → i ≤ xs.length → d < k → pumiceref01_Get.l0 k xs (leVal (xs.take i)) i = some (leVal xs) := by
  intro d
  induction d with
  | zero =>
    intro k i hd hi hk
    obtain ⟨k, rfl⟩ : ∃ q, k = q + 1 := ⟨k - 1, by omega⟩
    obtain rfl : i = xs.length := by omega
    simp only [pumiceref01_Get.l0]
    rw [if_neg (by omega)]
    simp
  | succ d ih =>
    intro k i hd hi hk
    obtain ⟨k, rfl⟩ : ∃ q, k = q + 1 := ⟨k - 1, by omega⟩
    simp only [pumiceref01_Get.l0]
    have hw : wrap64 (8 * (i : Int)) = 8 * (i : Int) := by unfold wrap64; omega
    have hu : IntKind.u64.wrap (8 * (i : Int)) = 8 * (i : Int) := wrap_u64 (by omega) (by omega)
    have hw2 : wrap64 ((i : Int) + 1) = ((i + 1 : Nat) : Int) := by unfold wrap64; omega
    rw [if_pos (by omega), if_pos (by omega), if_pos (by omega), hw, hu, hw2, if_pos (by omega)]
    have hr := leVal_range (xs.take i) (h.take i)
    have hli : (xs.take i).length = i := by simp; omega
    rw [hli] at hr
    have hstep := get_round (leVal (xs.take i)) (rd xs i) i (by omega) hr (rd_byte h i (by omega)) (8 * (i : Int)) rfl
    have ih' := ih k (i + 1) (by omega) (by omega) (by omega)
    rw [rd_take xs i (by omega), leVal_snoc, hli] at ih'
    rw [hstep]
    exact ih'
theorem rget_val (xs : List Int) (h : Bytes xs) (hl : xs.length ≤ 8) : pumiceref01_Get.f 9 xs = some (leVal xs) := by
  unfold pumiceref01_Get.f
  have := rget_loop xs h hl xs.length 9 0 (by omega) (by omega) (by omega)
  simpa [leVal] using this
theorem leVal_64 {xs : List Int} (h : Bytes xs) (hl : xs.length ≤ 7) : 0 ≤ leVal xs ∧ leVal xs < 72057594037927936 := by
  have h1 := leVal_range xs h
  have h2 : (256 : Int) ^ xs.length ≤ 72057594037927936 := by
    have := Nat.pow_le_pow_right (n := 256) (by decide) hl
    have h3 : (256 : Int) ^ xs.length = ((256 ^ xs.length : Nat) : Int) := by simp
    rw [h3]
    omega
  omega

/-- (*reader).number -/
theorem number_calls (g : Nat) (A : Option Addr) (c at_ k : Nat) (xs : List Int) (w0 w : World) (H : Frag) (HH : Holds w0 w ((g, RdB A c xs at_) :: H)) (hl : xs.length ≤ 281474976710656) (hc : xs.length ≤ c) (hat : at_ ≤ xs.length + 1) (hk : k ≤ 7) (hs : Src (Value.int .u8) w0 H A xs) (hb : Bytes xs) :
    Calls Try.prog 50 #[.pointer (some ⟨g, 0, none⟩), .int .i64 k] w fun e w' => e = .returned (.int .i64 (leVal (nxt xs at_ k))) ∧ Holds w0 w' ((g, RdB A c xs (pos xs at_ k)) :: H) := by
  have HA := Aside0.mk HH
  have HS := Aside0.mk hs
  have HG := Aside0.mk (get_val (nxt xs at_ k) (hb.nxt at_ k) (by have := nxt_le xs at_ k; omega))
  have hlen := nxt_le xs at_ k
  have hv := leVal_64 (hb.nxt at_ k) (by omega)
  clear HH hs hb
  go_enter Try.func50, Try.ntmps50
  go_wp2_with (first
    | (go_at_call 51; (with_reducible refine (next_calls g A c at_ k xs w0 w H H HA.out hl hc hat (by omega) HS.out).mono ?_); rintro e w1 ⟨A', c', rfl, hc1, hs1, HB⟩
       have HB1 := Aside0.mk HB
       have HC : Aside0 ((Kd.int .u8).C w1 A' (nxt xs at_ k).length (nxt xs at_ k)) := Aside0.mk (hs1.mono (H' := (g, RdB A c xs (pos xs at_ k)) :: H) (fun x hx => List.mem_cons_of_mem _ hx) |>.C (h1 := fun _ => rfl) HB (by omega))
       have hc1' := Aside0.mk hc1
       clear HB hs1 hc1)
    | (go_at_call 53; (with_reducible refine (bits_Get.calls 9 A' c' (nxt xs at_ k) _ _ HC.out hc1'.out HG.out).mono ?_); rintro e w2 ⟨rfl, hb2⟩))
  go_ret
  exact ⟨rfl, HB1.out.call hb2⟩
/-- What a reader reads lies in no reader's block. -/
theorem src_apart {g : Nat} {A A' : Option Addr} {c at_ : Nat} {xs ys : List Int} {w0 : World} {H R : Frag} (hs : Src (Value.int .u8) w0 H A xs) (hp : List.Perm H ((g, RdB A' c ys at_) :: R)) : Src (Value.int .u8) w0 R A xs := by
  rcases hs with h | ⟨b, off, hA, h | ⟨cs, t, fz, hm, hc⟩⟩
  · exact .inl h
  · exact .inr ⟨b, off, hA, .inl h⟩
  · cases xs with
    | nil => exact .inl rfl
    | cons x xs =>
      rcases List.mem_cons.1 (hp.mem_iff.1 hm) with he | hm
      · exfalso
        have h0 := hc 0 x rfl
        simp only [Prod.mk.injEq, RdB, Cl] at he
        obtain ⟨_, he⟩ := he
        injection he with he _ _
        have hcs : cs = [Value.slice A' ys.length c, Value.int IntKind.i64 at_] := by
          have := congrArg Array.toList he
          simpa using this
        subst hcs
        match off, h0 with
        | 0, h0 => simp at h0
        | 1, h0 => simp at h0
        | off + 2, h0 => simp at h0
      · exact .inr ⟨b, off, hA, .inr ⟨cs, t, fz, hm, hc⟩⟩
theorem number_at {g : Nat} {A : Option Addr} {c at_ k : Nat} {xs : List Int} {w0 w : World} {H H' : Frag} (HH : Holds w0 w H) (ha : Holds.At g (RdB A c xs at_) (RdB A c xs (pos xs at_ k)) H H') (hl : xs.length ≤ 281474976710656) (hc : xs.length ≤ c) (hat : at_ ≤ xs.length + 1) (hk : k ≤ 7) (hs : Src (Value.int .u8) w0 H A xs) (hb : Bytes xs) :
    Calls Try.prog 50 #[.pointer (some ⟨g, 0, none⟩), .int .i64 k] w fun e w' => e = .returned (.int .i64 (leVal (nxt xs at_ k))) ∧ Holds w0 w' H' := by
  obtain ⟨R, h1, h2⟩ := ha.perm
  exact (number_calls g A c at_ k xs w0 w R (HH.perm h1) hl hc hat hk (src_apart hs h1) hb).mono fun e w' ⟨he, hw⟩ => ⟨he, hw.perm h2.symm⟩
end Go.Proofs.Ytakchpeohmkpkaa.Q

namespace Go.Proofs.Ytakchpeohmkpkaa.Q
open Go.RowKit Go.Proofs.YtakchpeohmkpkaaW.PrintWords Go.Proofs.YtakchpeohmkpkaaW.PrintLast Go.Proofs.YtakchpeohmkpkaaW.PrintMore
set_option linter.unusedVariables false
set_option linter.unusedSimpArgs false

/-- The two chars. -/
def two2 : ByteArray := ⟨#[47, 0]⟩
/-- Has a text one of them? -/
def hasBad (l : List UInt8) : Bool := l.any fun b => b == 47 || b == 0
def NoBad (s : ByteArray) (i : Nat) : Prop := ∀ j (hj : j < s.size), j < i → (s[j]'hj) ≠ 47 ∧ (s[j]'hj) ≠ 0
theorem NoBad.zero (s : ByteArray) : NoBad s 0 := fun _ _ h => absurd h (Nat.not_lt_zero _)
theorem NoBad.succ {s : ByteArray} {i : Nat} (h : NoBad s i) (hi : i < s.size) (h1 : s[i]'hi ≠ 47) (h2 : s[i]'hi ≠ 0) : NoBad s (i + 1) := by
  intro j hj hl
  rcases Nat.lt_or_ge j i with h3 | h3
  · exact h j hj h3
  · obtain rfl : j = i := by omega
    exact ⟨h1, h2⟩
theorem NoBad.high {s : ByteArray} {i d : Nat} (h : NoBad s i) (hd : ∀ j (hj : j < s.size), i ≤ j → j < i + d → 128 ≤ (s[j]'hj).toNat) : NoBad s (i + d) := by
  intro j hj hl
  rcases Nat.lt_or_ge j i with h3 | h3
  · exact h j hj h3
  · have := hd j hj h3 hl
    refine ⟨fun e => ?_, fun e => ?_⟩ <;> rw [e] at this <;> exact absurd this (by decide)
theorem NoBad.all {s : ByteArray} (h : NoBad s s.size) : hasBad s.data.toList = false := by
  unfold hasBad
  rw [List.any_eq_false]
  intro b hb
  obtain ⟨j, hj, rfl⟩ := List.mem_iff_getElem.1 hb
  have hj' : j < s.size := by simpa using hj
  have := h j hj' hj'
  have e : (s[j]'hj') = s.data.toList[j] := by simp [ByteArray.getElem_eq_getElem_data]
  rw [e] at this
  simp only [Array.getElem_toList] at this
  simp [this.1, this.2]
theorem hasBad_at {s : ByteArray} {i : Nat} (hi : i < s.size) (h : s[i]'hi = 47 ∨ s[i]'hi = 0) : hasBad s.data.toList = true := by
  unfold hasBad
  rw [List.any_eq_true]
  refine ⟨s[i]'hi, ?_, ?_⟩
  · rw [ByteArray.getElem_eq_getElem_data]
    simp
  · rcases h with h | h <;> simp [h]

theorem decode_end (s : ByteArray) (pos : Nat) (h : pos < s.size) : pos + (Utf8.decode s pos).2 ≤ s.size := by
  simp only [Utf8.decode]
  repeat' split
  all_goals simp_all
  all_goals omega
theorem get_lt (s : ByteArray) (j : Nat) (h : j < s.size) : s.get! j = s[j]'h := by simpa using get_at s j h
theorem decode_skip (s : ByteArray) (pos : Nat) (h : pos < s.size) (ha : 128 ≤ (s[pos]'h).toNat) (j : Nat) (hj : j < s.size) (h1 : pos ≤ j) (h2 : j < pos + (Utf8.decode s pos).2) : 128 ≤ (s[j]'hj).toNat := by
  rcases Nat.eq_or_lt_of_le h1 with rfl | h3
  · exact ha
  · have hc : ∀ k, pos + k = j → (s.get! (pos + k)).toNat / 64 = 2 → 128 ≤ (s[j]'hj).toNat := by
      intro k hk hk2
      subst hk
      rw [get_lt s _ hj] at hk2
      omega
    revert h2
    simp only [Utf8.decode]
    intro h2
    have hd : ∀ n, (n = 1 ∨ (n = 2 ∧ (s.get! (pos + 1)).toNat / 64 = 2) ∨ (n = 3 ∧ (s.get! (pos + 1)).toNat / 64 = 2 ∧ (s.get! (pos + 2)).toNat / 64 = 2) ∨ (n = 4 ∧ (s.get! (pos + 1)).toNat / 64 = 2 ∧ (s.get! (pos + 2)).toNat / 64 = 2 ∧ (s.get! (pos + 3)).toNat / 64 = 2)) → j < pos + n → 128 ≤ (s[j]'hj).toNat := by
      intro n hn hl
      have hj3 : j = pos + 1 ∨ j = pos + 2 ∨ j = pos + 3 := by omega
      rcases hj3 with e | e | e
      · exact hc 1 e.symm (by omega)
      · exact hc 2 e.symm (by omega)
      · exact hc 3 e.symm (by omega)
    refine hd _ ?_ h2
    repeat' split
    all_goals simp_all

set_option maxHeartbeats 1000000 in
set_option maxRecDepth 100000 in
theorem sliteIndexByte_calls (s : ByteArray) (c : Int) (w : World) : Calls Try.prog 83 #[.string s, .int .u8 c] w fun e w' => e = .returned (.int .i64 (Lib.indexByte s.data.toList c.toNat.toUInt8)) ∧ w' = w := by
  go_enter Try.func83, Try.ntmps83
  go_wp2
  rw [run_callFunc_extern Try.func84 (by kernel_rfl) (by kernel_rfl) (by kernel_rfl) (e := Extern.BytealgIndexByte.indexByte) (by kernel_rfl), Lib.run_indexByteString]
  simp only [Result.andThen]
  rw [Oper.upon_value]
  go_wp2
  go_ret
  exact ⟨rfl, rfl⟩
set_option maxHeartbeats 1000000 in
theorem indexByte_calls (s : ByteArray) (c : Int) (w : World) : Calls Try.prog 79 #[.string s, .int .u8 c] w fun e w' => e = .returned (.int .i64 (Lib.indexByte s.data.toList c.toNat.toUInt8)) ∧ w' = w := by
  go_enter Try.func79, Try.ntmps79
  go_wp2_with (go_at_call 83; refine (sliteIndexByte_calls _ _ _).mono ?_; rintro e w' ⟨rfl, rfl⟩)
  go_ret
  exact ⟨rfl, rfl⟩
theorem validRune_calls (r : Int) (w : World) (h0 : 128 ≤ r) (h1 : r ≤ 2147483647) : Calls Try.prog 80 #[.int .i32 r] w fun e w' => e = .returned (.bool (Utf8.valid r)) ∧ w' = w := by
  have d0 : decide ((0 : Int) ≤ r) = true := decide_eq_true (by omega)
  by_cases h2 : r < 55296
  · have d1 : decide (r < 55296) = true := decide_eq_true h2
    go_enter Try.func80, Try.ntmps80
    go_wp2
    go_ret
    exact ⟨by simp [Utf8.valid, d0, d1], rfl⟩
  · have d1 : decide (r < 55296) = false := decide_eq_false h2
    by_cases h3 : 57343 < r
    · have d2 : decide (57343 < r) = true := decide_eq_true h3
      by_cases h4 : r ≤ 1114111
      · have d3 : decide (r ≤ 1114111) = true := decide_eq_true h4
        go_enter Try.func80, Try.ntmps80
        go_wp2
        go_ret
        refine ⟨?_, rfl⟩
        simp [Utf8.valid]
        omega
      · have d3 : decide (r ≤ 1114111) = false := decide_eq_false h4
        go_enter Try.func80, Try.ntmps80
        go_wp2
        go_ret
        refine ⟨?_, rfl⟩
        simp [Utf8.valid]
        omega
    · have d2 : decide (57343 < r) = false := decide_eq_false h3
      go_enter Try.func80, Try.ntmps80
      go_wp2
      go_ret
      refine ⟨?_, rfl⟩
      simp [Utf8.valid]
      omega

set_option maxHeartbeats 2000000 in
set_option maxRecDepth 1000000 in
theorem rune_low (s : ByteArray) (r : Int) (w : World) (h0 : 0 ≤ r) (h1 : r < 128) : Calls Try.prog 75 #[.string s, .int .i32 r] w fun e w' => e = .returned (.int .i64 (Lib.indexByte s.data.toList r.toNat.toUInt8)) ∧ w' = w := by
  go_enter Try.func75, Try.ntmps75
  go_wp2_with (go_at_call 79; refine (indexByte_calls _ _ _).mono ?_; rintro e w' ⟨rfl, hw⟩; rw [hw])
  go_ret
  exact ⟨rfl, rfl⟩
set_option maxHeartbeats 2000000 in
set_option maxRecDepth 1000000 in
theorem rune_bad (s : ByteArray) (r : Int) (w : World) (h0 : 128 ≤ r) (h1 : r ≤ 2147483647) (h2 : r ≠ 65533) (hv : Utf8.valid r = false) : Calls Try.prog 75 #[.string s, .int .i32 r] w fun e w' => e = .returned (.int .i64 (-1)) ∧ w' = w := by
  have n1 : (r == 65533) = false := beq_eq_false_iff_ne.2 h2
  go_enter Try.func75, Try.ntmps75
  go_wp2_with (go_at_call 80; refine (validRune_calls r _ h0 h1).mono ?_; rintro e w' ⟨rfl, hw⟩; rw [hw, hv])
  go_ret
  exact ⟨rfl, rfl⟩
set_option maxHeartbeats 2000000 in
set_option maxRecDepth 1000000 in
theorem rune_error (w : World) : Calls Try.prog 75 #[.string two2, .int .i32 65533] w fun e w' => e = .returned (.int .i64 (-1)) ∧ Below w.heap.size w w' := by
  unfold two2
  go_enter Try.func75, Try.ntmps75
  go_wp2
  go_loopg [5, 6] 2 (fun g _ _ wx => ∃ i : Nat, i + g = 2 ∧ wx = w.iter ⟨#[47, 0]⟩ i)
  case atStart => exact ⟨0, by omega, rfl⟩
  case round =>
    obtain ⟨i, hig, rfl⟩ := hrel
    cases gk with
    | zero =>
      obtain rfl : i = 2 := by omega
      have hnx := run_next_end (P := Try.prog) w ⟨#[47, 0]⟩ 2
      simp only [show ¬ 2 < (⟨#[47, 0]⟩ : ByteArray).size from by decide, not_false_eq_true, forall_const] at hnx
      go_wp2
      go_ret
      exact ⟨rfl, (Below.refl _ _).alloc (Nat.le_refl _) _⟩
    | succ g =>
      have hi : i = 0 ∨ i = 1 := by omega
      rcases hi with rfl | rfl
      · have hnx := fun ty => run_next_ascii (P := Try.prog) w ⟨#[47, 0]⟩ 0 ty (by decide) (by decide)
        simp only [show ((⟨#[47, 0]⟩ : ByteArray)[0]'(by decide)).toNat = 47 from rfl] at hnx
        go_wp2
        go_roundg 1
        case measure => omega
        case rel => exact ⟨1, by omega, rfl⟩
      · have hnx := fun ty => run_next_ascii (P := Try.prog) w ⟨#[47, 0]⟩ 1 ty (by decide) (by decide)
        simp only [show ((⟨#[47, 0]⟩ : ByteArray)[1]'(by decide)).toNat = 0 from rfl] at hnx
        go_wp2
        go_roundg 0
        case measure => omega
        case rel => exact ⟨2, by omega, rfl⟩

theorem encode_last (r : Int) (hv : Utf8.valid r = true) (h : 128 ≤ r) : 2 ≤ (Utf8.encode r).size ∧ (Utf8.encode r).size ≤ 4 ∧ ∀ h2 : 1 < (Utf8.encode r).size, (Utf8.encode r).size = 2 → 128 ≤ ((Utf8.encode r)[1]'h2).toNat := by
  obtain ⟨h1, h2, h3⟩ := encode_facts r hv h
  refine ⟨h1, h2, fun h4 h5 => ?_⟩
  have := h3 (by omega)
  simpa [h5] using this
set_option maxHeartbeats 4000000 in
set_option maxRecDepth 1000000 in
theorem rune_high2 (r : Int) (w : World) (h0 : 128 ≤ r) (h1 : r ≤ 2147483647) (h2 : r ≠ 65533) (hv : Utf8.valid r = true) (h4 : (Utf8.encode r).size = 2) : Calls Try.prog 75 #[.string two2, .int .i32 r] w fun e w' => e = .returned (.int .i64 (-1)) ∧ Below w.heap.size w w' := by
  have n1 : (r == 65533) = false := beq_eq_false_iff_ne.2 h2
  have hz := (encode_last r hv h0).2.2 (by omega) h4
  unfold two2
  obtain ⟨rs, hrs⟩ : ∃ rs, Utf8.encode r = rs := ⟨_, rfl⟩
  obtain ⟨x, hx⟩ : ∃ x : UInt8, (Utf8.encode r)[1]'(by omega) = x := ⟨_, rfl⟩
  rw [hx] at hz
  simp only [hrs] at h4 hx
  have hw2 : IntKind.i64.wrap 2 = 2 := by decide
  have hcmp : ((((⟨#[47, 0]⟩ : ByteArray)[1]'(by decide)).toNat : Int) != (x.toNat : Int)) = true := by
    show ((0 : Int) != (x.toNat : Int)) = true
    rw [bne_iff_ne]
    omega
  go_enter Try.func75, Try.ntmps75
  go_wp2_with (go_at_call 80; refine (validRune_calls r _ h0 h1).mono ?_; rintro e w' ⟨rfl, hw⟩; rw [hw, hv])
  go_step3
  go_wp2
  go_loopg [9] 0 (fun g s9 wx => s9 = .int .i64 1 ∧ wx = w)
  case atStart => exact ⟨by first | rfl | (simp [h4]; done) | (simp [h4, wrap64]; done), by first | exact hw | rfl⟩
  case round =>
    obtain ⟨rfl, rfl⟩ := hrel
    go_wp2
    go_step3
    go_wp2
    go_region
    all_goals go_wp2
    all_goals
      go_region_law (
        refine goes_ Try.func79 (by kernel_rfl) rfl #[.string ByteArray.empty, .int .u8 (x.toNat : Int)] (by rfl) rfl rfl (by first | rfl | (simp [Act.eval]; done)) ?_
        refine (indexByte_calls _ _ _).mono ?_
        rintro e w1 ⟨rfl, hw1⟩
        refine ⟨_, rfl, ?_⟩
        rw [hw1])
    all_goals go_wp2
    all_goals
      rw [Exit.noGoto_ret]
      (try simp only [Exit.inBlock, Exit.then])
      rw [Exit.noGoto_ret]
      go_ret
      exact ⟨rfl, by repeat (first | exact Below.refl _ _ | apply below_drew1)⟩
set_option maxHeartbeats 4000000 in
set_option maxRecDepth 1000000 in
theorem rune_high3 (r : Int) (m : Nat) (w : World) (h0 : 128 ≤ r) (h1 : r ≤ 2147483647) (h2 : r ≠ 65533) (hv : Utf8.valid r = true) (h4 : (Utf8.encode r).size = m + 3) (hm : m ≤ 1) : Calls Try.prog 75 #[.string two2, .int .i32 r] w fun e w' => e = .returned (.int .i64 (-1)) ∧ w' = w := by
  have n1 : (r == 65533) = false := beq_eq_false_iff_ne.2 h2
  unfold two2
  obtain ⟨rs, hrs⟩ : ∃ rs, Utf8.encode r = rs := ⟨_, rfl⟩
  simp only [hrs] at h4
  have hm2 : ¬ ((m : Int) + 2 < 2) := by omega
  go_enter Try.func75, Try.ntmps75
  go_wp2_with (go_at_call 80; refine (validRune_calls r _ h0 h1).mono ?_; rintro e w' ⟨rfl, hw⟩; rw [hw, hv])
  go_step3
  go_wp2
  go_loopg [9] 0 (fun g s9 wx => s9 = .int .i64 ((m : Int) + 2) ∧ wx = w)
  case atStart => exact ⟨by first | rfl | (simp [h4]; done) | (simp [h4, wrap64]; omega), by first | exact hw | rfl⟩
  case round =>
    obtain ⟨rfl, rfl⟩ := hrel
    go_wp2
    rw [Exit.noGoto_ret]
    go_ret
    exact ⟨rfl, rfl⟩

end Go.Proofs.Ytakchpeohmkpkaa.Q

namespace Go.Proofs.Ytakchpeohmkpkaa.Q
open Go.RowKit Go.Proofs.YtakchpeohmkpkaaW.PrintWords Go.Proofs.YtakchpeohmkpkaaW.PrintLast Go.Proofs.YtakchpeohmkpkaaW.PrintMore
set_option linter.unusedVariables false
set_option linter.unusedSimpArgs false


theorem rune_any (r : Int) (w : World) (h0 : 128 ≤ r) (h1 : r ≤ 2147483647) : Calls Try.prog 75 #[.string two2, .int .i32 r] w fun e w' => e = .returned (.int .i64 (-1)) ∧ Below w.heap.size w w' := by
  by_cases h2 : r = 65533
  · subst h2; exact rune_error w
  cases hv : Utf8.valid r with
  | false => exact (rune_bad two2 r w h0 h1 h2 hv).mono fun e w' h => ⟨h.1, h.2 ▸ Below.refl _ _⟩
  | true =>
    obtain ⟨e1, e2, _⟩ := encode_last r hv h0
    by_cases h4 : (Utf8.encode r).size = 2
    · exact rune_high2 r w h0 h1 h2 hv h4
    · exact (rune_high3 r ((Utf8.encode r).size - 3) w h0 h1 h2 hv (by omega) (by omega)).mono fun e w' h => ⟨h.1, h.2 ▸ Below.refl _ _⟩

set_option maxHeartbeats 1000000 in
theorem useSet_calls (n : Int) (w : World) : Calls Try.prog 76 #[.int .i64 n] w fun e w' => e = .returned (.bool (decide (8 < n))) ∧ w' = w := by
  go_enter Try.func76, Try.ntmps76
  go_wp2
  go_ret
  exact ⟨rfl, rfl⟩

/-- A string's iterator stands at i. -/
structure IterAt (w wx : World) (s : ByteArray) (i : Nat) : Prop where
  at_ : wx.heap[w.heap.size]? = some (.stringIter s i)
  below : Below w.heap.size w wx
theorem IterAt.set {w wx : World} {s : ByteArray} {i j : Nat} (h : IterAt w wx s i) : IterAt w (wx.iterAt w.heap.size s j) s j := by
  refine ⟨Lib.iterAt_heap wx w.heap.size s i j h.at_, h.below.trans ⟨rfl, rfl, rfl, by simp [World.iterAt], fun k hk => ?_⟩⟩
  simp only [World.iterAt]
  rw [Array.getElem?_setIfInBounds_ne (by omega)]
theorem IterAt.past {w wx w1 : World} {s : ByteArray} {i : Nat} (h : IterAt w wx s i) (hb : Below wx.heap.size wx w1) : IterAt w w1 s i :=
  ⟨(hb.block _ (Array.getElem?_eq_some_iff.1 h.at_).1).trans h.at_, h.below.trans (hb.mono h.below.size)⟩

theorem idx_low (x : UInt8) : (0 ≤ Lib.indexByte two2.data.toList x) ↔ (x = 47 ∨ x = 0) := by
  unfold two2
  simp only [Lib.indexByte]
  by_cases h1 : x = 47
  · subst h1; simp
  · by_cases h2 : x = 0
    · subst h2; decide
    · have e1 : ((47 : UInt8) == x) = false := beq_eq_false_iff_ne.2 (fun e => h1 e.symm)
      have e2 : ((0 : UInt8) == x) = false := beq_eq_false_iff_ne.2 (fun e => h2 e.symm)
      simp [e1, e2, h1, h2]

set_option maxHeartbeats 8000000 in
set_option maxRecDepth 1000000 in
theorem any_short (s : ByteArray) (w : World) (h8 : s.size ≤ 8) : Calls Try.prog 70 #[.string s, .string two2] w fun e w' => (∃ i : Int, e = .returned (.int .i64 i) ∧ decide (0 ≤ i) = hasBad s.data.toList) ∧ Below w.heap.size w w' := by
  have h8z : decide ((8 : Int) < (s.size : Int)) = false := decide_eq_false (by omega)
  unfold two2
  have hemp : (⟨#[47, 0]⟩ : ByteArray).toList.isEmpty = false := by rw [Lib.toList_data]; rfl
  have hn1 : (((⟨#[47, 0]⟩ : ByteArray).size : Int) == 1) = false := by decide
  go_enter Try.func70, Try.ntmps70
  go_wp2_with (go_at_call 76; refine (useSet_calls _ _).mono ?_; rintro e w' ⟨rfl, hw⟩; rw [hw, h8z])
  go_loopg [9, 10] s.size (fun g _ _ wx => ∃ i : Nat, i + g = s.size ∧ IterAt w wx s i ∧ NoBad s i)
  case atStart => exact ⟨0, by omega, ⟨World.iter_heap w s 0, (Below.refl _ _).alloc (Nat.le_refl _) _⟩, NoBad.zero _⟩
  case round =>
    obtain ⟨i, hig, hit, hno⟩ := hrel
    have HN : Aside (NoBad s i) := hno
    have HI : Aside (IterAt w wr s i) := hit
    clear hno hit
    cases gk with
    | zero =>
      obtain rfl : i = s.size := by omega
      have hnx := fun ty => Lib.run_next_end_at (P := Try.prog) wr w.heap.size s s.size ty HI.out.at_ (by omega)
      go_wp2
      go_ret
      exact ⟨⟨_, rfl, by rw [HN.out.all]; rfl⟩, HI.out.below⟩
    | succ g =>
      have hi : i < s.size := by omega
      obtain ⟨x, hx⟩ : ∃ x : UInt8, s[i]'hi = x := ⟨_, rfl⟩
      by_cases hx128 : x.toNat < 128
      · have hnx := fun ty => Lib.run_next_ascii_at (P := Try.prog) wr w.heap.size s i ty HI.out.at_ hi (by rw [hx]; exact hx128)
        rw [hx] at hnx
        have HI2 : Aside (IterAt w (wr.iterAt w.heap.size s (i + 1)) s (i + 1)) := HI.out.set
        have hback : ((x.toNat : Int)).toNat.toUInt8 = x := by simp
        have hlow := idx_low x
        unfold two2 at hlow
        by_cases hin : x = 47 ∨ x = 0
        · have hge : (0 : Int) ≤ Lib.indexByte (⟨#[47, 0]⟩ : ByteArray).data.toList x := hlow.2 hin
          have hbad := hasBad_at hi (by rw [hx]; exact hin)
          clear hlow
          go_wp2_with (go_at_call 75; refine (rune_low _ _ _ (by omega) (by omega)).mono ?_; rintro e w' ⟨rfl, hw⟩; rw [hw, hback])
          go_ret
          exact ⟨⟨_, rfl, by rw [hbad]; exact decide_eq_true (by omega)⟩, HI2.out.below⟩
        · have hlt : ¬ ((0 : Int) ≤ Lib.indexByte (⟨#[47, 0]⟩ : ByteArray).data.toList x) := fun h => hin (hlow.1 h)
          clear hlow
          go_wp2_with (go_at_call 75; refine (rune_low _ _ _ (by omega) (by omega)).mono ?_; rintro e w' ⟨rfl, hw⟩; rw [hw, hback])
          go_roundg g
          case measure => omega
          case rel => exact ⟨i + 1, by omega, HI2.out, HN.out.succ hi (by rw [hx]; exact fun e => hin (.inl e)) (by rw [hx]; exact fun e => hin (.inr e))⟩
      · have hnx := fun ty => Lib.run_next_any_at (P := Try.prog) wr w.heap.size s i ty HI.out.at_ hi
        obtain ⟨d1, d2⟩ := decode_high s i hi (by rw [hx]; omega)
        have d3 := decode_le s i
        have d4 := decode_end s i hi
        have HS : Aside (∀ j (hj : j < s.size), i ≤ j → j < i + (Utf8.decode s i).2 → 128 ≤ (s[j]'hj).toNat) := fun j hj h1 h2 => decode_skip s i hi (by rw [hx]; omega) j hj h1 h2
        have HI2 : Aside (IterAt w (wr.iterAt w.heap.size s (i + (Utf8.decode s i).2)) s (i + (Utf8.decode s i).2)) := HI.out.set
        obtain ⟨r, hr⟩ : ∃ r, (Utf8.decode s i).1 = r := ⟨_, rfl⟩
        obtain ⟨d, hd⟩ : ∃ d, (Utf8.decode s i).2 = d := ⟨_, rfl⟩
        rw [hr, hd] at hnx
        rw [hr] at d1 d3
        rw [hd] at d2 d4 HS HI2
        have hra := rune_any (r : Int)
        unfold two2 at hra
        have hra2 := fun w => hra w (by omega) (by omega)
        clear hra
        go_wp2_with (go_at_call 75; (with_reducible refine (hra2 _).mono ?_); rintro e w' ⟨rfl, hw⟩; have HI3 := Aside0.mk (HI2.out.past hw))
        go_roundg (s.size - (i + d))
        case measure => omega
        case rel => exact ⟨i + d, by omega, HI3.out, HN.out.high HS.out⟩

theorem zero_set : (∀ w, (zeroValue 91).run Try.prog w = .ok (.agg (Array.replicate 256 (.bool false))) w) ∧ (Try.prog.info? 91).map (·.size) = some 256 :=
  have h : (Try.prog.info? 91).map (fun i => (i.zero, i.size)) = some (some (.agg (Array.replicate 256 (.bool false))), 256) := by kernel_rfl
  Go.zero_of_info h

set_option maxHeartbeats 4000000 in
set_option maxRecDepth 1000000 in
theorem makeSet_calls (chars : ByteArray) (w : World) (hs : chars.size < 4294967281) (hascii : ∀ (j : Nat) b, chars.data.toList[j]? = some b → b.toNat < 128) :
    Calls Try.prog 77 #[.string chars] w fun e w' => e = .returned (.tuple #[.agg (Lib.setCells chars.data.toList), .bool true]) ∧ w' = w.alloc (.cells (Lib.setCells chars.data.toList) 91) := by
  obtain ⟨hv116, hi116⟩ := zero_set
  have HA : Aside (∀ (j : Nat) b, chars.data.toList[j]? = some b → b.toNat < 128) := hascii
  clear hascii
  have tS := Try.underlying91
  go_enter Try.func77, Try.ntmps77
  go_wp2
  rw [← Lib.setCells_nil]
  go_loopg [4] chars.size (fun g s4 wx => ∃ i : Nat, i + g = chars.size ∧ s4 = .int .i64 i ∧ wx = w.alloc (.cells (Lib.setCells (chars.data.toList.take i)) 91))
  case atStart => exact ⟨0, by omega, rfl, rfl⟩
  case round =>
    obtain ⟨i, hig, rfl, rfl⟩ := hrel
    cases gk with
    | zero =>
      obtain rfl : i = chars.size := by omega
      have hiz : ¬ ((chars.size : Int) < (chars.size : Int)) := by omega
      rw [show chars.data.toList.take chars.size = chars.data.toList from List.take_of_length_le (by rw [← Lib.size_eq]; exact Nat.le_refl _)]
      have hld := run_loadVar_new (P := Try.prog) w 91 (Lib.setCells chars.data.toList) 256 4 tS (by rw [Lib.setCells_size]; exact hi116)
      have hsz := Lib.setCells_size chars.data.toList
      have hlc := run_loadCellsFrom_new (P := Try.prog) w 91 (Lib.setCells chars.data.toList) 256 hsz
      have hsc := run_storeCells_new (P := Try.prog) w 91 (Lib.setCells chars.data.toList) (Lib.setCells chars.data.toList) (by rw [hsz]; exact hi116) rfl (Lib.setCells_one _)
      have hl : (Instr.loadAt 91 (.pointer (some ⟨w.heap.size, 0, none⟩))).run Try.prog (w.alloc (.cells (Lib.setCells chars.data.toList) 91)) = .ok (.agg (Lib.setCells chars.data.toList)) (w.alloc (.cells (Lib.setCells chars.data.toList) 91)) := by
        simp [Instr.loadAt, Instr.sureAddr, asAddr, Result.andThen, hld]
      have hst : (Instr.storeAt 91 (.pointer (some ⟨w.heap.size, 0, none⟩)) (.agg (Lib.setCells chars.data.toList))).run Try.prog (w.alloc (.cells (Lib.setCells chars.data.toList) 91)) = .ok () (w.alloc (.cells (Lib.setCells chars.data.toList) 91)) := by
        have := run_storeVar_new (P := Try.prog) w 91 (Lib.setCells chars.data.toList) (Lib.setCells chars.data.toList) (by rw [hsz]; exact hi116) rfl (Lib.setCells_one _)
        simp [Instr.storeAt, Instr.sureAddr, asAddr, Result.andThen, this]
      go_wp2
      unfold Oper.wp
      have hrun : ∀ (f : Operand → Value) (o : Oper), f (.tmp 2) = .pointer (some ⟨w.heap.size, 0, none⟩) → o.op = .load 91 (.tmp 2) → (execOp f o).run Try.prog (w.alloc (.cells (Lib.setCells chars.data.toList) 91)) = .ok (.value (.agg (Lib.setCells chars.data.toList))) (w.alloc (.cells (Lib.setCells chars.data.toList) 91)) := fun f o h1 h2 => by simp [execOp, h1, h2, hl, Result.andThen]
      rw [hrun _ _ rfl rfl, Oper.upon_value]
      go_wp2
      (try simp only [Exit.inBlock, Exit.then])
      refine bodyPost_ret (v := .tuple #[.agg (Lib.setCells chars.data.toList), .bool true]) ?_ rfl ⟨rfl, rfl⟩
      rw [results_cell_tmp rfl]
      simp [asAddr, Result.andThen, hld]
    | succ g =>
      have hi : i < chars.size := by omega
      have hiz : (i : Int) < (chars.size : Int) := by omega
      obtain ⟨x, hx⟩ : ∃ x : UInt8, chars[i]'hi = x := ⟨_, rfl⟩
      have hxl : chars.data.toList[i]? = some x := by rw [← hx]; exact Lib.data_getElem? chars i hi
      have hx128 : ¬ ((128 : Int) ≤ (x.toNat : Int)) := by have := HA.out i x hxl; omega
      have hx256 : (x.toNat : Int) < 256 := by have := HA.out i x hxl; omega
      have hcell := Lib.setCells_at (chars.data.toList.take i) x
      have Hx : Aside (chars.data.toList[i]? = some x) := hxl
      clear hxl
      go_wp2
      go_roundg g
      case measure => omega
      case rel => exact ⟨i + 1, by omega, by first | rfl | simp, by rw [List.take_add_one, Hx.out]; simp only [Option.toList]; rw [Lib.setCells_snoc]⟩

set_option maxHeartbeats 2000000 in
set_option maxRecDepth 1000000 in
theorem contains_calls (b : Nat) (x : UInt8) (v : Bool) (w : World) (hc : w.cell? ⟨b, x.toNat, none⟩ = some (.bool v)) :
    Calls Try.prog 78 #[.pointer (some ⟨b, 0, none⟩), .int .u8 x.toNat] w fun e w' => e = .returned (.bool v) ∧ w' = w := by
  have hx256 : (x.toNat : Int) < 256 := by have := UInt8.toNat_lt x; omega
  go_enter Try.func78, Try.ntmps78
  go_wp2
  go_ret
  exact ⟨rfl, rfl⟩

set_option maxHeartbeats 8000000 in
set_option maxRecDepth 1000000 in
theorem any_long (s : ByteArray) (w : World) (h8 : 8 < s.size) (hs : s.size ≤ 281474976710656) : Calls Try.prog 70 #[.string s, .string two2] w fun e w' => (∃ i : Int, e = .returned (.int .i64 i) ∧ decide (0 ≤ i) = hasBad s.data.toList) ∧ Below w.heap.size w w' := by
  obtain ⟨hv116, hi116⟩ := zero_set
  have hM := makeSet_calls two2 w (by decide) (by
    intro j b hb
    have hm := List.mem_of_getElem? hb
    have : b = 47 ∨ b = 0 := by simpa [two2] using hm
    rcases this with rfl | rfl <;> decide)
  obtain ⟨cl, hcl⟩ : ∃ l : List UInt8, two2.data.toList = l := ⟨_, rfl⟩
  rw [hcl] at hM
  have HCL := Aside0.mk hcl
  clear hcl
  have hemp : (⟨#[47, 0]⟩ : ByteArray).toList.isEmpty = false := by rw [Lib.toList_data]; rfl
  have hn1 : (((⟨#[47, 0]⟩ : ByteArray).size : Int) == 1) = false := by decide
  have h8z : decide ((8 : Int) < (s.size : Int)) = true := decide_eq_true (by omega)
  have hsc : (storeCells ⟨w.heap.size + 1, 0, none⟩ (Lib.setCells cl).toList 0).run Try.prog ((w.alloc (.cells (Lib.setCells cl) 91)).alloc (.cells (Array.replicate 256 (.bool false)) 91)) = .ok () ((w.alloc (.cells (Lib.setCells cl) 91)).alloc (.cells (Lib.setCells cl) 91)) := by
    have := run_storeCells_new (P := Try.prog) (w.alloc (.cells (Lib.setCells cl) 91)) 91 (Array.replicate 256 (.bool false)) (Lib.setCells cl) (by rw [Lib.setCells_size]; exact hi116) (by rw [Lib.setCells_size, Array.size_replicate]) (Lib.setCells_one _)
    simpa using this
  have hsz := Lib.setCells_size cl
  have hcellAt : ∀ x : UInt8, ((w.alloc (.cells (Lib.setCells cl) 91)).alloc (.cells (Lib.setCells cl) 91)).cell? ⟨w.heap.size + 1, x.toNat, none⟩ = some (.bool (cl.contains x)) := fun x => by
    rw [World.cell?_alloc_at _ _ _ _ (by simp), Lib.setCells_at]
  have HC : Aside (∀ x : UInt8, ((w.alloc (.cells (Lib.setCells cl) 91)).alloc (.cells (Lib.setCells cl) 91)).cell? ⟨w.heap.size + 1, x.toNat, none⟩ = some (.bool (cl.contains x))) := hcellAt
  clear hcellAt
  have tS := Try.underlying91
  unfold two2 at hM ⊢
  go_enter Try.func70, Try.ntmps70
  go_wp2_with (first
    | (go_at_call 76; refine (useSet_calls _ _).mono ?_; rintro e w' ⟨rfl, hw⟩; rw [hw, h8z])
    | (go_at_call 77; refine hM.mono ?_; rintro e w' ⟨rfl, hw⟩; rw [hw]))
  clear hM hsc
  go_loopg [8] s.size (fun g s8 wx => ∃ i : Nat, i + g = s.size ∧ s8 = .int .i64 i ∧ wx = ((w.alloc (.cells (Lib.setCells cl) 91)).alloc (.cells (Lib.setCells cl) 91)) ∧ NoBad s i)
  case atStart => exact ⟨0, by omega, rfl, rfl, NoBad.zero _⟩
  case round =>
    obtain ⟨i, hig, rfl, rfl, hno⟩ := hrel
    have HN : Aside (NoBad s i) := hno
    clear hno
    cases gk with
    | zero =>
      obtain rfl : i = s.size := by omega
      have hiz : ¬ ((s.size : Int) < (s.size : Int)) := by omega
      go_wp2
      go_ret
      exact ⟨⟨_, rfl, by rw [HN.out.all]; rfl⟩, ((Below.refl _ _).alloc (Nat.le_refl _) _).alloc (by simp) _⟩
    | succ g =>
      have hi : i < s.size := by omega
      have hiz : (i : Int) < (s.size : Int) := by omega
      obtain ⟨x, hx⟩ : ∃ x : UInt8, s[i]'hi = x := ⟨_, rfl⟩
      have hcx := HC.out x
      have hcon : cl.contains x = (x == 47 || x == 0) := by
        rw [← HCL.out]
        show ([47, 0] : List UInt8).contains x = (x == 47 || x == 0)
        simp only [List.contains_cons, List.contains_nil, Bool.or_false]
      cases hin : cl.contains x <;> rw [hin] at hcx
      · rw [hin] at hcon
        have hn : x ≠ 47 ∧ x ≠ 0 := by simpa using hcon.symm
        clear hcon
        go_wp2_with (go_at_call 78; refine (contains_calls _ x _ _ hcx).mono ?_; rintro e w' ⟨rfl, hw⟩; rw [hw])
        go_roundg g
        case measure => omega
        case rel => exact ⟨i + 1, by omega, by first | rfl | simp, rfl, HN.out.succ hi (by rw [hx]; exact hn.1) (by rw [hx]; exact hn.2)⟩
      · rw [hin] at hcon
        have hn : x = 47 ∨ x = 0 := by simpa using hcon.symm
        have hbad := hasBad_at hi (by rw [hx]; exact hn)
        clear hcon
        go_wp2_with (go_at_call 78; refine (contains_calls _ x _ _ hcx).mono ?_; rintro e w' ⟨rfl, hw⟩; rw [hw])
        go_ret
        exact ⟨⟨_, rfl, by rw [hbad]; exact decide_eq_true (by omega)⟩, ((Below.refl _ _).alloc (Nat.le_refl _) _).alloc (by simp) _⟩

theorem containsAny_calls (s : ByteArray) (w : World) (hs : s.size ≤ 281474976710656) : Calls Try.prog 58 #[.string s, .string two2] w fun e w' => e = .returned (.bool (hasBad s.data.toList)) ∧ Below w.heap.size w w' := by
  have hA : Calls Try.prog 70 #[.string s, .string two2] w fun e w' => (∃ i : Int, e = .returned (.int .i64 i) ∧ decide (0 ≤ i) = hasBad s.data.toList) ∧ Below w.heap.size w w' := by
    by_cases h8 : s.size ≤ 8
    · exact any_short s w h8
    · exact any_long s w (by omega) hs
  unfold two2 at hA ⊢
  go_enter Try.func58, Try.ntmps58
  go_wp2_with (go_at_call 70; (with_reducible refine hA.mono ?_); rintro e w' ⟨⟨i, rfl, hi⟩, hw⟩)
  go_ret
  exact ⟨by rw [← hi]; rfl, hw⟩

def names_Right.f (a0 : ByteArray) : Option Int :=
  if a0.size ≤ 281474976710656 then some (if a0.toList = [] then 2 else if hasBad a0.data.toList = true ∨ a0.toList = [46] ∨ a0.toList = [46, 46] then 22 else if 24 < (a0.size : Int) then 36 else 0) else none
set_option maxHeartbeats 8000000 in
set_option maxRecDepth 1000000 in
theorem names_Right.calls (a0 : ByteArray) (r : Int) (w : World) (h : names_Right.f a0 = some r) : Calls Try.prog 31 #[.string a0] w fun e w' => e = .returned (.int .i64 r) ∧ Below w.heap.size w w' := by
  unfold names_Right.f at h
  split at h
  · rename_i hs
    cases h
    have hA := fun w => containsAny_calls a0 w hs
    unfold two2 at hA
    by_cases h0 : a0.toList = []
    · rw [if_pos h0]
      go_enter Try.func31, Try.ntmps31
      go_wp2
      go_ret
      exact ⟨rfl, Below.refl _ _⟩
    · rw [if_neg h0]
      have hemp : a0.toList.isEmpty = false := by simpa using h0
      cases hb : hasBad a0.data.toList with
      | true =>
        rw [if_pos (.inl rfl)]
        go_enter Try.func31, Try.ntmps31
        go_wp2_with (go_at_call 58; (with_reducible refine (hA _).mono ?_); rintro e w' ⟨rfl, hw⟩; rw [hb])
        go_ret
        exact ⟨rfl, hw⟩
      | false =>
        by_cases h1 : a0.toList = [46]
        · rw [if_pos (.inr (.inl h1))]
          go_enter Try.func31, Try.ntmps31
          go_wp2_with (go_at_call 58; (with_reducible refine (hA _).mono ?_); rintro e w' ⟨rfl, hw⟩; rw [hb])
          go_ret
          exact ⟨rfl, hw⟩
        · have e1 : (a0.toList == [46]) = false := beq_eq_false_iff_ne.2 h1
          by_cases h2 : a0.toList = [46, 46]
          · rw [if_pos (.inr (.inr h2))]
            go_enter Try.func31, Try.ntmps31
            go_wp2_with (go_at_call 58; (with_reducible refine (hA _).mono ?_); rintro e w' ⟨rfl, hw⟩; rw [hb])
            go_ret
            exact ⟨rfl, hw⟩
          · rw [if_neg (by simp [h1, h2])]
            have e2 : (a0.toList == [46, 46]) = false := beq_eq_false_iff_ne.2 h2
            by_cases h3 : 24 < (a0.size : Int)
            · rw [if_pos h3]
              go_enter Try.func31, Try.ntmps31
              go_wp2_with (go_at_call 58; (with_reducible refine (hA _).mono ?_); rintro e w' ⟨rfl, hw⟩; rw [hb])
              go_ret
              exact ⟨rfl, hw⟩
            · rw [if_neg h3]
              go_enter Try.func31, Try.ntmps31
              go_wp2_with (go_at_call 58; (with_reducible refine (hA _).mono ?_); rintro e w' ⟨rfl, hw⟩; rw [hb])
              go_ret
              exact ⟨rfl, hw⟩
  · cases h
end Go.Proofs.Ytakchpeohmkpkaa.Q

namespace Go.Proofs.Ytakchpeohmkpkaa.Q
open Go.RowKit Go.Proofs.YtakchpeohmkpkaaW.PrintWords Go.Proofs.YtakchpeohmkpkaaW.PrintLast Go.Proofs.YtakchpeohmkpkaaW.PrintMore
set_option linter.unusedVariables false
set_option linter.unusedSimpArgs false
/-- The number of two bytes, the higher one first. -/
def num2 (s : ByteArray) : Int := bt s 0 * 256 + bt s 1
def goodInoB (a : Int) : Bool := decide (1 ≤ a) && decide (a ≤ 4096)
def goodBlockB (a : Int) : Bool := decide (0 ≤ a) && decide (a < 128)
theorem or_i64 (h l : Int) (hh : 0 ≤ h ∧ h < 256) (hl : 0 ≤ l ∧ l < 256) : Go.bits .or .i64 (h * 256) l = h * 256 + l := by
  obtain ⟨h, rfl⟩ := Int.eq_ofNat_of_zero_le hh.1
  obtain ⟨l, rfl⟩ := Int.eq_ofNat_of_zero_le hl.1
  have hor : (h * 256) ||| l = h * 256 + l := by
    have := Nat.two_pow_add_eq_or_of_lt (i := 8) (b := l) (by omega) h
    simp only [Nat.reducePow] at this
    rw [Nat.mul_comm h 256]
    omega
  have hx : (h * 256) ||| l < 65536 := by rw [hor]; omega
  have h1 : (BitVec.ofInt 64 ((h : Int) * 256)).toNat = h * 256 := by
    rw [show ((h : Int) * 256) = ((h * 256 : Nat) : Int) from by simp, BitVec.ofInt_natCast, BitVec.toNat_ofNat]; exact Nat.mod_eq_of_lt (by omega)
  have h2 : (BitVec.ofInt 64 (l : Int)).toNat = l := by
    rw [BitVec.ofInt_natCast, BitVec.toNat_ofNat]; exact Nat.mod_eq_of_lt (by omega)
  show IntKind.i64.wrap ((BitVec.ofInt 64 ((h : Int) * 256) ||| BitVec.ofInt 64 (l : Int)).toNat : Int) = _
  rw [BitVec.toNat_or, h1, h2, hor, IntKind.wrap_i64]
  omega
theorem num_f (s : ByteArray) (h : 2 ≤ s.size) : node_number.f s = some (num2 s) := by
  unfold node_number.f num2
  rw [if_pos (by omega), if_pos (by omega)]
  have r0 := bt_range s 0
  have r1 := bt_range s 1
  rw [show wrap64 (bt s 0) = bt s 0 from by unfold wrap64; omega, show wrap64 (bt s 0 * 256) = bt s 0 * 256 from by unfold wrap64; omega, show wrap64 (bt s 1) = bt s 1 from by unfold wrap64; omega, or_i64 _ _ (by omega) (by omega)]
theorem num_calls (s : ByteArray) (w : World) (h : 2 ≤ s.size) : Calls Try.prog 55 #[.string s] w fun e w' => e = .returned (.int .i64 (num2 s)) ∧ Drawn0 w w' := node_number.calls s _ w (num_f s h)
theorem good_calls (a : Int) (w : World) : Calls Try.prog 56 #[.int .i64 a] w fun e w' => e = .returned (.bool (goodInoB a)) ∧ Drawn0 w w' := by
  refine node_goodIno.calls a _ w ?_
  unfold node_goodIno.f goodInoB
  by_cases h : a ≥ 1 <;> simp [h] <;> omega
theorem blk_calls (a : Int) (w : World) : Calls Try.prog 57 #[.int .i64 a] w fun e w' => e = .returned (.bool (goodBlockB a)) ∧ Drawn0 w w' := by
  refine node_goodBlock.calls a _ w ?_
  unfold node_goodBlock.f goodBlockB
  by_cases h : a ≥ 0 <;> simp [h] <;> omega
set_option maxHeartbeats 8000000 in
set_option maxRecDepth 100000 in
theorem kind_s (s : ByteArray) (w : World) (h3 : s.size < 3) : Calls Try.prog 30 #[.string s] w fun e w' => e = .returned (.tuple #[.int .i64 0, .int .i64 0, .string ⟨#[]⟩, .int .i64 0]) ∧ Below w.heap.size w w' := by
  have a1 : decide ((s.size : Int) < 3) = true := decide_eq_true (by omega)
  have a2 : decide (s.size < 3) = true := decide_eq_true (by omega)
  go_enter Try.func30, Try.ntmps30
  go_wp2
  refine bodyPost_ret (results_list (rs := [.tmp 2, .tmp 3, .tmp 4, .tmp 5]) rfl (by simp) (.tmp (.tmp (.tmp (.tmp .nil))))) rfl ?_
  exact ⟨rfl, Below.refl _ _⟩
set_option maxHeartbeats 8000000 in
set_option maxRecDepth 100000 in
theorem kind_o1 (s rest pre : ByteArray) (e : Int) (w : World) (h3 : 3 ≤ s.size) (hrest : s.extract 3 s.size = rest) (hpre : s.extract 0 3 = pre) (hr2 : 2 ≤ rest.size)
    (f0 : (num2 s == 0) = true) (f1 : (num2 s != 0) = false) (f2 : (pre.toList == ([0, 0, 4] : List UInt8)) = true) (f3 : (pre.toList != ([0, 0, 4] : List UInt8)) = false) (f4 : ((rest.size : Int) == 2) = true) (f5 : ((rest.size : Int) != 2) = false) (f6 : (rest.size == 2) = true) (f7 : (rest.size != 2) = false) (f8 : goodInoB (num2 rest) = true) : Calls Try.prog 30 #[.string s] w fun e w' => e = .returned (.tuple #[.int .i64 4, .int .i64 (num2 rest), .string ⟨#[]⟩, .int .i64 0]) ∧ Below w.heap.size w w' := by
  have h2 : 2 ≤ s.size := by omega
  have a1 : decide ((s.size : Int) < 3) = false := decide_eq_false (by omega)
  have a2 : decide (s.size < 3) = false := decide_eq_false (by omega)
  have b0 : (3 ≤ (s.size : Int)) = True := eq_true (by omega)
  have b1 : decide (3 ≤ (s.size : Int)) = true := decide_eq_true (by omega)
  have b2 : (2 < s.size) = True := eq_true (by omega)
  have b3 : (2 < (s.size : Int)) = True := eq_true (by omega)
  have hx : ∀ h : 2 < s.size, ((s[2]'h).toNat : Int) = bt s 2 := bt_at s 2
  obtain ⟨r0, r1⟩ := bt_range s 2
  go_enter Try.func30, Try.ntmps30
  go_wp2_with (first
    | (go_at_call 55; (with_reducible refine (num_calls _ _ (by assumption)).mono ?_); rintro e w' ⟨rfl, ⟨nd, rfl⟩⟩)
    | (go_at_call 56; (with_reducible refine (good_calls _ _).mono ?_); rintro e w' ⟨rfl, ⟨nd, rfl⟩⟩)
    | (go_at_call 57; (with_reducible refine (blk_calls _ _).mono ?_); rintro e w' ⟨rfl, ⟨nd, rfl⟩⟩)
    | (go_at_call 31; (with_reducible refine (names_Right.calls rest e _ HE.out).mono ?_); rintro e w1 ⟨rfl, hb1⟩))
  go_quiet ((go_at_call 55; exact Calls.quiet_of ((num_calls _ _ (by assumption)).mono fun _ _ ⟨he_, hd_⟩ => ⟨he_, hd_.out⟩)))
  go_wp2_with (first
    | (go_at_call 55; (with_reducible refine (num_calls _ _ (by assumption)).mono ?_); rintro e w' ⟨rfl, ⟨nd, rfl⟩⟩)
    | (go_at_call 56; (with_reducible refine (good_calls _ _).mono ?_); rintro e w' ⟨rfl, ⟨nd, rfl⟩⟩)
    | (go_at_call 57; (with_reducible refine (blk_calls _ _).mono ?_); rintro e w' ⟨rfl, ⟨nd, rfl⟩⟩)
    | (go_at_call 31; (with_reducible refine (names_Right.calls rest e _ HE.out).mono ?_); rintro e w1 ⟨rfl, hb1⟩))
  refine bodyPost_ret (results_list (rs := [.tmp 2, .tmp 3, .tmp 4, .tmp 5]) rfl (by simp) (.tmp (.tmp (.tmp (.tmp .nil))))) rfl ?_
  exact ⟨rfl, by repeat (first | exact Below.refl _ _ | apply pw_below_drewN | apply below_drew1)⟩
set_option maxHeartbeats 8000000 in
set_option maxRecDepth 100000 in
theorem kind_o2 (s rest pre : ByteArray) (e : Int) (w : World) (h3 : 3 ≤ s.size) (hrest : s.extract 3 s.size = rest) (hpre : s.extract 0 3 = pre) (hr2 : 2 ≤ rest.size)
    (f0 : (num2 s == 0) = true) (f1 : (num2 s != 0) = false) (f2 : goodInoB (num2 s) = false) (f3 : (pre.toList == ([0, 0, 4] : List UInt8)) = true) (f4 : (pre.toList != ([0, 0, 4] : List UInt8)) = false) (f5 : ((rest.size : Int) == 2) = true) (f6 : ((rest.size : Int) != 2) = false) (f7 : (rest.size == 2) = true) (f8 : (rest.size != 2) = false) (f9 : goodInoB (num2 rest) = false) : Calls Try.prog 30 #[.string s] w fun e w' => e = .returned (.tuple #[.int .i64 0, .int .i64 0, .string ⟨#[]⟩, .int .i64 0]) ∧ Below w.heap.size w w' := by
  have h2 : 2 ≤ s.size := by omega
  have a1 : decide ((s.size : Int) < 3) = false := decide_eq_false (by omega)
  have a2 : decide (s.size < 3) = false := decide_eq_false (by omega)
  have b0 : (3 ≤ (s.size : Int)) = True := eq_true (by omega)
  have b1 : decide (3 ≤ (s.size : Int)) = true := decide_eq_true (by omega)
  have b2 : (2 < s.size) = True := eq_true (by omega)
  have b3 : (2 < (s.size : Int)) = True := eq_true (by omega)
  have hx : ∀ h : 2 < s.size, ((s[2]'h).toNat : Int) = bt s 2 := bt_at s 2
  obtain ⟨r0, r1⟩ := bt_range s 2
  go_enter Try.func30, Try.ntmps30
  go_wp2_with (first
    | (go_at_call 55; (with_reducible refine (num_calls _ _ (by assumption)).mono ?_); rintro e w' ⟨rfl, ⟨nd, rfl⟩⟩)
    | (go_at_call 56; (with_reducible refine (good_calls _ _).mono ?_); rintro e w' ⟨rfl, ⟨nd, rfl⟩⟩)
    | (go_at_call 57; (with_reducible refine (blk_calls _ _).mono ?_); rintro e w' ⟨rfl, ⟨nd, rfl⟩⟩)
    | (go_at_call 31; (with_reducible refine (names_Right.calls rest e _ HE.out).mono ?_); rintro e w1 ⟨rfl, hb1⟩))
  go_quiet ((go_at_call 55; exact Calls.quiet_of ((num_calls _ _ (by assumption)).mono fun _ _ ⟨he_, hd_⟩ => ⟨he_, hd_.out⟩)))
  go_wp2_with (first
    | (go_at_call 55; (with_reducible refine (num_calls _ _ (by assumption)).mono ?_); rintro e w' ⟨rfl, ⟨nd, rfl⟩⟩)
    | (go_at_call 56; (with_reducible refine (good_calls _ _).mono ?_); rintro e w' ⟨rfl, ⟨nd, rfl⟩⟩)
    | (go_at_call 57; (with_reducible refine (blk_calls _ _).mono ?_); rintro e w' ⟨rfl, ⟨nd, rfl⟩⟩)
    | (go_at_call 31; (with_reducible refine (names_Right.calls rest e _ HE.out).mono ?_); rintro e w1 ⟨rfl, hb1⟩))
  refine bodyPost_ret (results_list (rs := [.tmp 2, .tmp 3, .tmp 4, .tmp 5]) rfl (by simp) (.tmp (.tmp (.tmp (.tmp .nil))))) rfl ?_
  exact ⟨rfl, by repeat (first | exact Below.refl _ _ | apply pw_below_drewN | apply below_drew1)⟩
set_option maxHeartbeats 8000000 in
set_option maxRecDepth 100000 in
theorem kind_o3 (s rest pre : ByteArray) (e : Int) (w : World) (h3 : 3 ≤ s.size) (hrest : s.extract 3 s.size = rest) (hpre : s.extract 0 3 = pre)
    (f0 : (num2 s == 0) = true) (f1 : (num2 s != 0) = false) (f2 : goodInoB (num2 s) = false) (f3 : (pre.toList == ([0, 0, 4] : List UInt8)) = true) (f4 : (pre.toList != ([0, 0, 4] : List UInt8)) = false) (f5 : ((rest.size : Int) == 2) = false) (f6 : ((rest.size : Int) != 2) = true) (f7 : (rest.size == 2) = false) (f8 : (rest.size != 2) = true) : Calls Try.prog 30 #[.string s] w fun e w' => e = .returned (.tuple #[.int .i64 0, .int .i64 0, .string ⟨#[]⟩, .int .i64 0]) ∧ Below w.heap.size w w' := by
  have h2 : 2 ≤ s.size := by omega
  have a1 : decide ((s.size : Int) < 3) = false := decide_eq_false (by omega)
  have a2 : decide (s.size < 3) = false := decide_eq_false (by omega)
  have b0 : (3 ≤ (s.size : Int)) = True := eq_true (by omega)
  have b1 : decide (3 ≤ (s.size : Int)) = true := decide_eq_true (by omega)
  have b2 : (2 < s.size) = True := eq_true (by omega)
  have b3 : (2 < (s.size : Int)) = True := eq_true (by omega)
  have hx : ∀ h : 2 < s.size, ((s[2]'h).toNat : Int) = bt s 2 := bt_at s 2
  obtain ⟨r0, r1⟩ := bt_range s 2
  go_enter Try.func30, Try.ntmps30
  go_wp2_with (first
    | (go_at_call 55; (with_reducible refine (num_calls _ _ (by assumption)).mono ?_); rintro e w' ⟨rfl, ⟨nd, rfl⟩⟩)
    | (go_at_call 56; (with_reducible refine (good_calls _ _).mono ?_); rintro e w' ⟨rfl, ⟨nd, rfl⟩⟩)
    | (go_at_call 57; (with_reducible refine (blk_calls _ _).mono ?_); rintro e w' ⟨rfl, ⟨nd, rfl⟩⟩)
    | (go_at_call 31; (with_reducible refine (names_Right.calls rest e _ HE.out).mono ?_); rintro e w1 ⟨rfl, hb1⟩))
  go_quiet ((go_at_call 55; exact Calls.quiet_of ((num_calls _ _ (by assumption)).mono fun _ _ ⟨he_, hd_⟩ => ⟨he_, hd_.out⟩)))
  go_wp2_with (first
    | (go_at_call 55; (with_reducible refine (num_calls _ _ (by assumption)).mono ?_); rintro e w' ⟨rfl, ⟨nd, rfl⟩⟩)
    | (go_at_call 56; (with_reducible refine (good_calls _ _).mono ?_); rintro e w' ⟨rfl, ⟨nd, rfl⟩⟩)
    | (go_at_call 57; (with_reducible refine (blk_calls _ _).mono ?_); rintro e w' ⟨rfl, ⟨nd, rfl⟩⟩)
    | (go_at_call 31; (with_reducible refine (names_Right.calls rest e _ HE.out).mono ?_); rintro e w1 ⟨rfl, hb1⟩))
  refine bodyPost_ret (results_list (rs := [.tmp 2, .tmp 3, .tmp 4, .tmp 5]) rfl (by simp) (.tmp (.tmp (.tmp (.tmp .nil))))) rfl ?_
  exact ⟨rfl, by repeat (first | exact Below.refl _ _ | apply pw_below_drewN | apply below_drew1)⟩
set_option maxHeartbeats 8000000 in
set_option maxRecDepth 100000 in
theorem kind_o4 (s rest pre : ByteArray) (e : Int) (w : World) (h3 : 3 ≤ s.size) (hrest : s.extract 3 s.size = rest) (hpre : s.extract 0 3 = pre)
    (f0 : (num2 s == 0) = true) (f1 : (num2 s != 0) = false) (f2 : goodInoB (num2 s) = false) (f3 : (pre.toList == ([0, 0, 4] : List UInt8)) = false) (f4 : (pre.toList != ([0, 0, 4] : List UInt8)) = true) : Calls Try.prog 30 #[.string s] w fun e w' => e = .returned (.tuple #[.int .i64 0, .int .i64 0, .string ⟨#[]⟩, .int .i64 0]) ∧ Below w.heap.size w w' := by
  have h2 : 2 ≤ s.size := by omega
  have a1 : decide ((s.size : Int) < 3) = false := decide_eq_false (by omega)
  have a2 : decide (s.size < 3) = false := decide_eq_false (by omega)
  have b0 : (3 ≤ (s.size : Int)) = True := eq_true (by omega)
  have b1 : decide (3 ≤ (s.size : Int)) = true := decide_eq_true (by omega)
  have b2 : (2 < s.size) = True := eq_true (by omega)
  have b3 : (2 < (s.size : Int)) = True := eq_true (by omega)
  have hx : ∀ h : 2 < s.size, ((s[2]'h).toNat : Int) = bt s 2 := bt_at s 2
  obtain ⟨r0, r1⟩ := bt_range s 2
  go_enter Try.func30, Try.ntmps30
  go_wp2_with (first
    | (go_at_call 55; (with_reducible refine (num_calls _ _ (by assumption)).mono ?_); rintro e w' ⟨rfl, ⟨nd, rfl⟩⟩)
    | (go_at_call 56; (with_reducible refine (good_calls _ _).mono ?_); rintro e w' ⟨rfl, ⟨nd, rfl⟩⟩)
    | (go_at_call 57; (with_reducible refine (blk_calls _ _).mono ?_); rintro e w' ⟨rfl, ⟨nd, rfl⟩⟩)
    | (go_at_call 31; (with_reducible refine (names_Right.calls rest e _ HE.out).mono ?_); rintro e w1 ⟨rfl, hb1⟩))
  go_quiet ((go_at_call 55; exact Calls.quiet_of ((num_calls _ _ (by assumption)).mono fun _ _ ⟨he_, hd_⟩ => ⟨he_, hd_.out⟩)))
  go_wp2_with (first
    | (go_at_call 55; (with_reducible refine (num_calls _ _ (by assumption)).mono ?_); rintro e w' ⟨rfl, ⟨nd, rfl⟩⟩)
    | (go_at_call 56; (with_reducible refine (good_calls _ _).mono ?_); rintro e w' ⟨rfl, ⟨nd, rfl⟩⟩)
    | (go_at_call 57; (with_reducible refine (blk_calls _ _).mono ?_); rintro e w' ⟨rfl, ⟨nd, rfl⟩⟩)
    | (go_at_call 31; (with_reducible refine (names_Right.calls rest e _ HE.out).mono ?_); rintro e w1 ⟨rfl, hb1⟩))
  refine bodyPost_ret (results_list (rs := [.tmp 2, .tmp 3, .tmp 4, .tmp 5]) rfl (by simp) (.tmp (.tmp (.tmp (.tmp .nil))))) rfl ?_
  exact ⟨rfl, by repeat (first | exact Below.refl _ _ | apply pw_below_drewN | apply below_drew1)⟩
set_option maxHeartbeats 8000000 in
set_option maxRecDepth 100000 in
theorem kind_b1 (s rest pre : ByteArray) (e : Int) (w : World) (h3 : 3 ≤ s.size) (hrest : s.extract 3 s.size = rest) (hpre : s.extract 0 3 = pre)
    (f0 : (num2 s == 0) = false) (f1 : (num2 s != 0) = true) (f2 : goodInoB (num2 s) = false) : Calls Try.prog 30 #[.string s] w fun e w' => e = .returned (.tuple #[.int .i64 0, .int .i64 0, .string ⟨#[]⟩, .int .i64 0]) ∧ Below w.heap.size w w' := by
  have h2 : 2 ≤ s.size := by omega
  have a1 : decide ((s.size : Int) < 3) = false := decide_eq_false (by omega)
  have a2 : decide (s.size < 3) = false := decide_eq_false (by omega)
  have b0 : (3 ≤ (s.size : Int)) = True := eq_true (by omega)
  have b1 : decide (3 ≤ (s.size : Int)) = true := decide_eq_true (by omega)
  have b2 : (2 < s.size) = True := eq_true (by omega)
  have b3 : (2 < (s.size : Int)) = True := eq_true (by omega)
  have hx : ∀ h : 2 < s.size, ((s[2]'h).toNat : Int) = bt s 2 := bt_at s 2
  obtain ⟨r0, r1⟩ := bt_range s 2
  go_enter Try.func30, Try.ntmps30
  go_wp2_with (first
    | (go_at_call 55; (with_reducible refine (num_calls _ _ (by assumption)).mono ?_); rintro e w' ⟨rfl, ⟨nd, rfl⟩⟩)
    | (go_at_call 56; (with_reducible refine (good_calls _ _).mono ?_); rintro e w' ⟨rfl, ⟨nd, rfl⟩⟩)
    | (go_at_call 57; (with_reducible refine (blk_calls _ _).mono ?_); rintro e w' ⟨rfl, ⟨nd, rfl⟩⟩)
    | (go_at_call 31; (with_reducible refine (names_Right.calls rest e _ HE.out).mono ?_); rintro e w1 ⟨rfl, hb1⟩))
  go_quiet ((go_at_call 55; exact Calls.quiet_of ((num_calls _ _ (by assumption)).mono fun _ _ ⟨he_, hd_⟩ => ⟨he_, hd_.out⟩)))
  go_wp2_with (first
    | (go_at_call 55; (with_reducible refine (num_calls _ _ (by assumption)).mono ?_); rintro e w' ⟨rfl, ⟨nd, rfl⟩⟩)
    | (go_at_call 56; (with_reducible refine (good_calls _ _).mono ?_); rintro e w' ⟨rfl, ⟨nd, rfl⟩⟩)
    | (go_at_call 57; (with_reducible refine (blk_calls _ _).mono ?_); rintro e w' ⟨rfl, ⟨nd, rfl⟩⟩)
    | (go_at_call 31; (with_reducible refine (names_Right.calls rest e _ HE.out).mono ?_); rintro e w1 ⟨rfl, hb1⟩))
  refine bodyPost_ret (results_list (rs := [.tmp 2, .tmp 3, .tmp 4, .tmp 5]) rfl (by simp) (.tmp (.tmp (.tmp (.tmp .nil))))) rfl ?_
  exact ⟨rfl, by repeat (first | exact Below.refl _ _ | apply pw_below_drewN | apply below_drew1)⟩
set_option maxHeartbeats 8000000 in
set_option maxRecDepth 100000 in
theorem kind_i1 (s rest pre : ByteArray) (e : Int) (w : World) (h3 : 3 ≤ s.size) (hrest : s.extract 3 s.size = rest) (hpre : s.extract 0 3 = pre)
    (f0 : (num2 s == 0) = false) (f1 : (num2 s != 0) = true) (f2 : goodInoB (num2 s) = true) (f3 : (bt s 2 == 1) = true) (f4 : (bt s 2 != 1) = false) (f5 : (rest.toList == ([] : List UInt8)) = true) (f6 : (rest.toList != ([] : List UInt8)) = false) (f7 : rest.toList.isEmpty = true) (f8 : (!rest.toList.isEmpty) = false) : Calls Try.prog 30 #[.string s] w fun e w' => e = .returned (.tuple #[.int .i64 1, .int .i64 (num2 s), .string ⟨#[]⟩, .int .i64 0]) ∧ Below w.heap.size w w' := by
  have h2 : 2 ≤ s.size := by omega
  have a1 : decide ((s.size : Int) < 3) = false := decide_eq_false (by omega)
  have a2 : decide (s.size < 3) = false := decide_eq_false (by omega)
  have b0 : (3 ≤ (s.size : Int)) = True := eq_true (by omega)
  have b1 : decide (3 ≤ (s.size : Int)) = true := decide_eq_true (by omega)
  have b2 : (2 < s.size) = True := eq_true (by omega)
  have b3 : (2 < (s.size : Int)) = True := eq_true (by omega)
  have hx : ∀ h : 2 < s.size, ((s[2]'h).toNat : Int) = bt s 2 := bt_at s 2
  obtain ⟨r0, r1⟩ := bt_range s 2
  go_enter Try.func30, Try.ntmps30
  go_wp2_with (first
    | (go_at_call 55; (with_reducible refine (num_calls _ _ (by assumption)).mono ?_); rintro e w' ⟨rfl, ⟨nd, rfl⟩⟩)
    | (go_at_call 56; (with_reducible refine (good_calls _ _).mono ?_); rintro e w' ⟨rfl, ⟨nd, rfl⟩⟩)
    | (go_at_call 57; (with_reducible refine (blk_calls _ _).mono ?_); rintro e w' ⟨rfl, ⟨nd, rfl⟩⟩)
    | (go_at_call 31; (with_reducible refine (names_Right.calls rest e _ HE.out).mono ?_); rintro e w1 ⟨rfl, hb1⟩))
  go_quiet ((go_at_call 55; exact Calls.quiet_of ((num_calls _ _ (by assumption)).mono fun _ _ ⟨he_, hd_⟩ => ⟨he_, hd_.out⟩)))
  go_wp2_with (first
    | (go_at_call 55; (with_reducible refine (num_calls _ _ (by assumption)).mono ?_); rintro e w' ⟨rfl, ⟨nd, rfl⟩⟩)
    | (go_at_call 56; (with_reducible refine (good_calls _ _).mono ?_); rintro e w' ⟨rfl, ⟨nd, rfl⟩⟩)
    | (go_at_call 57; (with_reducible refine (blk_calls _ _).mono ?_); rintro e w' ⟨rfl, ⟨nd, rfl⟩⟩)
    | (go_at_call 31; (with_reducible refine (names_Right.calls rest e _ HE.out).mono ?_); rintro e w1 ⟨rfl, hb1⟩))
  refine bodyPost_ret (results_list (rs := [.tmp 2, .tmp 3, .tmp 4, .tmp 5]) rfl (by simp) (.tmp (.tmp (.tmp (.tmp .nil))))) rfl ?_
  exact ⟨rfl, by repeat (first | exact Below.refl _ _ | apply pw_below_drewN | apply below_drew1)⟩
set_option maxHeartbeats 8000000 in
set_option maxRecDepth 100000 in
theorem kind_i2 (s rest pre : ByteArray) (e : Int) (w : World) (h3 : 3 ≤ s.size) (hrest : s.extract 3 s.size = rest) (hpre : s.extract 0 3 = pre)
    (f0 : (num2 s == 0) = false) (f1 : (num2 s != 0) = true) (f2 : goodInoB (num2 s) = true) (f3 : (bt s 2 == 1) = true) (f4 : (bt s 2 != 1) = false) (f5 : (bt s 2 == 2) = false) (f6 : (bt s 2 != 2) = true) (f7 : (bt s 2 == 3) = false) (f8 : (bt s 2 != 3) = true) (f9 : (rest.toList == ([] : List UInt8)) = false) (f10 : (rest.toList != ([] : List UInt8)) = true) (f11 : rest.toList.isEmpty = false) (f12 : (!rest.toList.isEmpty) = true) : Calls Try.prog 30 #[.string s] w fun e w' => e = .returned (.tuple #[.int .i64 0, .int .i64 0, .string ⟨#[]⟩, .int .i64 0]) ∧ Below w.heap.size w w' := by
  have h2 : 2 ≤ s.size := by omega
  have a1 : decide ((s.size : Int) < 3) = false := decide_eq_false (by omega)
  have a2 : decide (s.size < 3) = false := decide_eq_false (by omega)
  have b0 : (3 ≤ (s.size : Int)) = True := eq_true (by omega)
  have b1 : decide (3 ≤ (s.size : Int)) = true := decide_eq_true (by omega)
  have b2 : (2 < s.size) = True := eq_true (by omega)
  have b3 : (2 < (s.size : Int)) = True := eq_true (by omega)
  have hx : ∀ h : 2 < s.size, ((s[2]'h).toNat : Int) = bt s 2 := bt_at s 2
  obtain ⟨r0, r1⟩ := bt_range s 2
  go_enter Try.func30, Try.ntmps30
  go_wp2_with (first
    | (go_at_call 55; (with_reducible refine (num_calls _ _ (by assumption)).mono ?_); rintro e w' ⟨rfl, ⟨nd, rfl⟩⟩)
    | (go_at_call 56; (with_reducible refine (good_calls _ _).mono ?_); rintro e w' ⟨rfl, ⟨nd, rfl⟩⟩)
    | (go_at_call 57; (with_reducible refine (blk_calls _ _).mono ?_); rintro e w' ⟨rfl, ⟨nd, rfl⟩⟩)
    | (go_at_call 31; (with_reducible refine (names_Right.calls rest e _ HE.out).mono ?_); rintro e w1 ⟨rfl, hb1⟩))
  go_quiet ((go_at_call 55; exact Calls.quiet_of ((num_calls _ _ (by assumption)).mono fun _ _ ⟨he_, hd_⟩ => ⟨he_, hd_.out⟩)))
  go_wp2_with (first
    | (go_at_call 55; (with_reducible refine (num_calls _ _ (by assumption)).mono ?_); rintro e w' ⟨rfl, ⟨nd, rfl⟩⟩)
    | (go_at_call 56; (with_reducible refine (good_calls _ _).mono ?_); rintro e w' ⟨rfl, ⟨nd, rfl⟩⟩)
    | (go_at_call 57; (with_reducible refine (blk_calls _ _).mono ?_); rintro e w' ⟨rfl, ⟨nd, rfl⟩⟩)
    | (go_at_call 31; (with_reducible refine (names_Right.calls rest e _ HE.out).mono ?_); rintro e w1 ⟨rfl, hb1⟩))
  refine bodyPost_ret (results_list (rs := [.tmp 2, .tmp 3, .tmp 4, .tmp 5]) rfl (by simp) (.tmp (.tmp (.tmp (.tmp .nil))))) rfl ?_
  exact ⟨rfl, by repeat (first | exact Below.refl _ _ | apply pw_below_drewN | apply below_drew1)⟩
set_option maxHeartbeats 8000000 in
set_option maxRecDepth 100000 in
theorem kind_e1 (s rest pre : ByteArray) (e : Int) (w : World) (h3 : 3 ≤ s.size) (hrest : s.extract 3 s.size = rest) (hpre : s.extract 0 3 = pre) (hR : names_Right.f rest = some e)
    (f0 : (num2 s == 0) = false) (f1 : (num2 s != 0) = true) (f2 : goodInoB (num2 s) = true) (f3 : (bt s 2 == 1) = false) (f4 : (bt s 2 != 1) = true) (f5 : (bt s 2 == 2) = true) (f6 : (bt s 2 != 2) = false) (f7 : (e == 0) = true) (f8 : (e != 0) = false) : Calls Try.prog 30 #[.string s] w fun e w' => e = .returned (.tuple #[.int .i64 2, .int .i64 (num2 s), .string rest, .int .i64 0]) ∧ Below w.heap.size w w' := by
  have h2 : 2 ≤ s.size := by omega
  have a1 : decide ((s.size : Int) < 3) = false := decide_eq_false (by omega)
  have a2 : decide (s.size < 3) = false := decide_eq_false (by omega)
  have b0 : (3 ≤ (s.size : Int)) = True := eq_true (by omega)
  have b1 : decide (3 ≤ (s.size : Int)) = true := decide_eq_true (by omega)
  have b2 : (2 < s.size) = True := eq_true (by omega)
  have b3 : (2 < (s.size : Int)) = True := eq_true (by omega)
  have hx : ∀ h : 2 < s.size, ((s[2]'h).toNat : Int) = bt s 2 := bt_at s 2
  obtain ⟨r0, r1⟩ := bt_range s 2
  have HE := Aside0.mk hR
  clear hR
  go_enter Try.func30, Try.ntmps30
  go_wp2_with (first
    | (go_at_call 55; (with_reducible refine (num_calls _ _ (by assumption)).mono ?_); rintro e w' ⟨rfl, ⟨nd, rfl⟩⟩)
    | (go_at_call 56; (with_reducible refine (good_calls _ _).mono ?_); rintro e w' ⟨rfl, ⟨nd, rfl⟩⟩)
    | (go_at_call 57; (with_reducible refine (blk_calls _ _).mono ?_); rintro e w' ⟨rfl, ⟨nd, rfl⟩⟩)
    | (go_at_call 31; (with_reducible refine (names_Right.calls rest e _ HE.out).mono ?_); rintro e w1 ⟨rfl, hb1⟩))
  go_quiet ((go_at_call 55; exact Calls.quiet_of ((num_calls _ _ (by assumption)).mono fun _ _ ⟨he_, hd_⟩ => ⟨he_, hd_.out⟩)))
  go_wp2_with (first
    | (go_at_call 55; (with_reducible refine (num_calls _ _ (by assumption)).mono ?_); rintro e w' ⟨rfl, ⟨nd, rfl⟩⟩)
    | (go_at_call 56; (with_reducible refine (good_calls _ _).mono ?_); rintro e w' ⟨rfl, ⟨nd, rfl⟩⟩)
    | (go_at_call 57; (with_reducible refine (blk_calls _ _).mono ?_); rintro e w' ⟨rfl, ⟨nd, rfl⟩⟩)
    | (go_at_call 31; (with_reducible refine (names_Right.calls rest e _ HE.out).mono ?_); rintro e w1 ⟨rfl, hb1⟩))
  refine bodyPost_ret (results_list (rs := [.tmp 2, .tmp 3, .tmp 4, .tmp 5]) rfl (by simp) (.tmp (.tmp (.tmp (.tmp .nil))))) rfl ?_
  exact ⟨rfl, by repeat (first | exact Below.refl _ _ | exact ⟨hb1.os, hb1.tape, hb1.output, hb1.size, hb1.block⟩ | apply pw_below_drewN | apply below_drew1)⟩
set_option maxHeartbeats 8000000 in
set_option maxRecDepth 100000 in
theorem kind_e2 (s rest pre : ByteArray) (e : Int) (w : World) (h3 : 3 ≤ s.size) (hrest : s.extract 3 s.size = rest) (hpre : s.extract 0 3 = pre) (hR : names_Right.f rest = some e)
    (f0 : (num2 s == 0) = false) (f1 : (num2 s != 0) = true) (f2 : goodInoB (num2 s) = true) (f3 : (bt s 2 == 1) = false) (f4 : (bt s 2 != 1) = true) (f5 : (bt s 2 == 2) = true) (f6 : (bt s 2 != 2) = false) (f7 : (bt s 2 == 3) = false) (f8 : (bt s 2 != 3) = true) (f9 : (e == 0) = false) (f10 : (e != 0) = true) : Calls Try.prog 30 #[.string s] w fun e w' => e = .returned (.tuple #[.int .i64 0, .int .i64 0, .string ⟨#[]⟩, .int .i64 0]) ∧ Below w.heap.size w w' := by
  have h2 : 2 ≤ s.size := by omega
  have a1 : decide ((s.size : Int) < 3) = false := decide_eq_false (by omega)
  have a2 : decide (s.size < 3) = false := decide_eq_false (by omega)
  have b0 : (3 ≤ (s.size : Int)) = True := eq_true (by omega)
  have b1 : decide (3 ≤ (s.size : Int)) = true := decide_eq_true (by omega)
  have b2 : (2 < s.size) = True := eq_true (by omega)
  have b3 : (2 < (s.size : Int)) = True := eq_true (by omega)
  have hx : ∀ h : 2 < s.size, ((s[2]'h).toNat : Int) = bt s 2 := bt_at s 2
  obtain ⟨r0, r1⟩ := bt_range s 2
  have HE := Aside0.mk hR
  clear hR
  go_enter Try.func30, Try.ntmps30
  go_wp2_with (first
    | (go_at_call 55; (with_reducible refine (num_calls _ _ (by assumption)).mono ?_); rintro e w' ⟨rfl, ⟨nd, rfl⟩⟩)
    | (go_at_call 56; (with_reducible refine (good_calls _ _).mono ?_); rintro e w' ⟨rfl, ⟨nd, rfl⟩⟩)
    | (go_at_call 57; (with_reducible refine (blk_calls _ _).mono ?_); rintro e w' ⟨rfl, ⟨nd, rfl⟩⟩)
    | (go_at_call 31; (with_reducible refine (names_Right.calls rest e _ HE.out).mono ?_); rintro e w1 ⟨rfl, hb1⟩))
  go_quiet ((go_at_call 55; exact Calls.quiet_of ((num_calls _ _ (by assumption)).mono fun _ _ ⟨he_, hd_⟩ => ⟨he_, hd_.out⟩)))
  go_wp2_with (first
    | (go_at_call 55; (with_reducible refine (num_calls _ _ (by assumption)).mono ?_); rintro e w' ⟨rfl, ⟨nd, rfl⟩⟩)
    | (go_at_call 56; (with_reducible refine (good_calls _ _).mono ?_); rintro e w' ⟨rfl, ⟨nd, rfl⟩⟩)
    | (go_at_call 57; (with_reducible refine (blk_calls _ _).mono ?_); rintro e w' ⟨rfl, ⟨nd, rfl⟩⟩)
    | (go_at_call 31; (with_reducible refine (names_Right.calls rest e _ HE.out).mono ?_); rintro e w1 ⟨rfl, hb1⟩))
  refine bodyPost_ret (results_list (rs := [.tmp 2, .tmp 3, .tmp 4, .tmp 5]) rfl (by simp) (.tmp (.tmp (.tmp (.tmp .nil))))) rfl ?_
  exact ⟨rfl, by repeat (first | exact Below.refl _ _ | exact ⟨hb1.os, hb1.tape, hb1.output, hb1.size, hb1.block⟩ | apply pw_below_drewN | apply below_drew1)⟩
set_option maxHeartbeats 8000000 in
set_option maxRecDepth 100000 in
theorem kind_k1 (s rest pre : ByteArray) (e : Int) (w : World) (h3 : 3 ≤ s.size) (hrest : s.extract 3 s.size = rest) (hpre : s.extract 0 3 = pre) (hr2 : 2 ≤ rest.size)
    (f0 : (num2 s == 0) = false) (f1 : (num2 s != 0) = true) (f2 : goodInoB (num2 s) = true) (f3 : (bt s 2 == 1) = false) (f4 : (bt s 2 != 1) = true) (f5 : (bt s 2 == 2) = false) (f6 : (bt s 2 != 2) = true) (f7 : (bt s 2 == 3) = true) (f8 : (bt s 2 != 3) = false) (f9 : ((rest.size : Int) == 2) = true) (f10 : ((rest.size : Int) != 2) = false) (f11 : (rest.size == 2) = true) (f12 : (rest.size != 2) = false) (f13 : goodBlockB (num2 rest) = true) : Calls Try.prog 30 #[.string s] w fun e w' => e = .returned (.tuple #[.int .i64 3, .int .i64 (num2 s), .string ⟨#[]⟩, .int .i64 (num2 rest)]) ∧ Below w.heap.size w w' := by
  have h2 : 2 ≤ s.size := by omega
  have a1 : decide ((s.size : Int) < 3) = false := decide_eq_false (by omega)
  have a2 : decide (s.size < 3) = false := decide_eq_false (by omega)
  have b0 : (3 ≤ (s.size : Int)) = True := eq_true (by omega)
  have b1 : decide (3 ≤ (s.size : Int)) = true := decide_eq_true (by omega)
  have b2 : (2 < s.size) = True := eq_true (by omega)
  have b3 : (2 < (s.size : Int)) = True := eq_true (by omega)
  have hx : ∀ h : 2 < s.size, ((s[2]'h).toNat : Int) = bt s 2 := bt_at s 2
  obtain ⟨r0, r1⟩ := bt_range s 2
  go_enter Try.func30, Try.ntmps30
  go_wp2_with (first
    | (go_at_call 55; (with_reducible refine (num_calls _ _ (by assumption)).mono ?_); rintro e w' ⟨rfl, ⟨nd, rfl⟩⟩)
    | (go_at_call 56; (with_reducible refine (good_calls _ _).mono ?_); rintro e w' ⟨rfl, ⟨nd, rfl⟩⟩)
    | (go_at_call 57; (with_reducible refine (blk_calls _ _).mono ?_); rintro e w' ⟨rfl, ⟨nd, rfl⟩⟩)
    | (go_at_call 31; (with_reducible refine (names_Right.calls rest e _ HE.out).mono ?_); rintro e w1 ⟨rfl, hb1⟩))
  go_quiet ((go_at_call 55; exact Calls.quiet_of ((num_calls _ _ (by assumption)).mono fun _ _ ⟨he_, hd_⟩ => ⟨he_, hd_.out⟩)))
  go_wp2_with (first
    | (go_at_call 55; (with_reducible refine (num_calls _ _ (by assumption)).mono ?_); rintro e w' ⟨rfl, ⟨nd, rfl⟩⟩)
    | (go_at_call 56; (with_reducible refine (good_calls _ _).mono ?_); rintro e w' ⟨rfl, ⟨nd, rfl⟩⟩)
    | (go_at_call 57; (with_reducible refine (blk_calls _ _).mono ?_); rintro e w' ⟨rfl, ⟨nd, rfl⟩⟩)
    | (go_at_call 31; (with_reducible refine (names_Right.calls rest e _ HE.out).mono ?_); rintro e w1 ⟨rfl, hb1⟩))
  refine bodyPost_ret (results_list (rs := [.tmp 2, .tmp 3, .tmp 4, .tmp 5]) rfl (by simp) (.tmp (.tmp (.tmp (.tmp .nil))))) rfl ?_
  exact ⟨rfl, by repeat (first | exact Below.refl _ _ | apply pw_below_drewN | apply below_drew1)⟩
set_option maxHeartbeats 8000000 in
set_option maxRecDepth 100000 in
theorem kind_k2 (s rest pre : ByteArray) (e : Int) (w : World) (h3 : 3 ≤ s.size) (hrest : s.extract 3 s.size = rest) (hpre : s.extract 0 3 = pre) (hr2 : 2 ≤ rest.size)
    (f0 : (num2 s == 0) = false) (f1 : (num2 s != 0) = true) (f2 : goodInoB (num2 s) = true) (f3 : (bt s 2 == 1) = false) (f4 : (bt s 2 != 1) = true) (f5 : (bt s 2 == 2) = false) (f6 : (bt s 2 != 2) = true) (f7 : (bt s 2 == 3) = true) (f8 : (bt s 2 != 3) = false) (f9 : ((rest.size : Int) == 2) = true) (f10 : ((rest.size : Int) != 2) = false) (f11 : (rest.size == 2) = true) (f12 : (rest.size != 2) = false) (f13 : goodBlockB (num2 rest) = false) : Calls Try.prog 30 #[.string s] w fun e w' => e = .returned (.tuple #[.int .i64 0, .int .i64 0, .string ⟨#[]⟩, .int .i64 0]) ∧ Below w.heap.size w w' := by
  have h2 : 2 ≤ s.size := by omega
  have a1 : decide ((s.size : Int) < 3) = false := decide_eq_false (by omega)
  have a2 : decide (s.size < 3) = false := decide_eq_false (by omega)
  have b0 : (3 ≤ (s.size : Int)) = True := eq_true (by omega)
  have b1 : decide (3 ≤ (s.size : Int)) = true := decide_eq_true (by omega)
  have b2 : (2 < s.size) = True := eq_true (by omega)
  have b3 : (2 < (s.size : Int)) = True := eq_true (by omega)
  have hx : ∀ h : 2 < s.size, ((s[2]'h).toNat : Int) = bt s 2 := bt_at s 2
  obtain ⟨r0, r1⟩ := bt_range s 2
  go_enter Try.func30, Try.ntmps30
  go_wp2_with (first
    | (go_at_call 55; (with_reducible refine (num_calls _ _ (by assumption)).mono ?_); rintro e w' ⟨rfl, ⟨nd, rfl⟩⟩)
    | (go_at_call 56; (with_reducible refine (good_calls _ _).mono ?_); rintro e w' ⟨rfl, ⟨nd, rfl⟩⟩)
    | (go_at_call 57; (with_reducible refine (blk_calls _ _).mono ?_); rintro e w' ⟨rfl, ⟨nd, rfl⟩⟩)
    | (go_at_call 31; (with_reducible refine (names_Right.calls rest e _ HE.out).mono ?_); rintro e w1 ⟨rfl, hb1⟩))
  go_quiet ((go_at_call 55; exact Calls.quiet_of ((num_calls _ _ (by assumption)).mono fun _ _ ⟨he_, hd_⟩ => ⟨he_, hd_.out⟩)))
  go_wp2_with (first
    | (go_at_call 55; (with_reducible refine (num_calls _ _ (by assumption)).mono ?_); rintro e w' ⟨rfl, ⟨nd, rfl⟩⟩)
    | (go_at_call 56; (with_reducible refine (good_calls _ _).mono ?_); rintro e w' ⟨rfl, ⟨nd, rfl⟩⟩)
    | (go_at_call 57; (with_reducible refine (blk_calls _ _).mono ?_); rintro e w' ⟨rfl, ⟨nd, rfl⟩⟩)
    | (go_at_call 31; (with_reducible refine (names_Right.calls rest e _ HE.out).mono ?_); rintro e w1 ⟨rfl, hb1⟩))
  refine bodyPost_ret (results_list (rs := [.tmp 2, .tmp 3, .tmp 4, .tmp 5]) rfl (by simp) (.tmp (.tmp (.tmp (.tmp .nil))))) rfl ?_
  exact ⟨rfl, by repeat (first | exact Below.refl _ _ | apply pw_below_drewN | apply below_drew1)⟩
set_option maxHeartbeats 8000000 in
set_option maxRecDepth 100000 in
theorem kind_k3 (s rest pre : ByteArray) (e : Int) (w : World) (h3 : 3 ≤ s.size) (hrest : s.extract 3 s.size = rest) (hpre : s.extract 0 3 = pre)
    (f0 : (num2 s == 0) = false) (f1 : (num2 s != 0) = true) (f2 : goodInoB (num2 s) = true) (f3 : (bt s 2 == 1) = false) (f4 : (bt s 2 != 1) = true) (f5 : (bt s 2 == 2) = false) (f6 : (bt s 2 != 2) = true) (f7 : (bt s 2 == 3) = true) (f8 : (bt s 2 != 3) = false) (f9 : ((rest.size : Int) == 2) = false) (f10 : ((rest.size : Int) != 2) = true) (f11 : (rest.size == 2) = false) (f12 : (rest.size != 2) = true) : Calls Try.prog 30 #[.string s] w fun e w' => e = .returned (.tuple #[.int .i64 0, .int .i64 0, .string ⟨#[]⟩, .int .i64 0]) ∧ Below w.heap.size w w' := by
  have h2 : 2 ≤ s.size := by omega
  have a1 : decide ((s.size : Int) < 3) = false := decide_eq_false (by omega)
  have a2 : decide (s.size < 3) = false := decide_eq_false (by omega)
  have b0 : (3 ≤ (s.size : Int)) = True := eq_true (by omega)
  have b1 : decide (3 ≤ (s.size : Int)) = true := decide_eq_true (by omega)
  have b2 : (2 < s.size) = True := eq_true (by omega)
  have b3 : (2 < (s.size : Int)) = True := eq_true (by omega)
  have hx : ∀ h : 2 < s.size, ((s[2]'h).toNat : Int) = bt s 2 := bt_at s 2
  obtain ⟨r0, r1⟩ := bt_range s 2
  go_enter Try.func30, Try.ntmps30
  go_wp2_with (first
    | (go_at_call 55; (with_reducible refine (num_calls _ _ (by assumption)).mono ?_); rintro e w' ⟨rfl, ⟨nd, rfl⟩⟩)
    | (go_at_call 56; (with_reducible refine (good_calls _ _).mono ?_); rintro e w' ⟨rfl, ⟨nd, rfl⟩⟩)
    | (go_at_call 57; (with_reducible refine (blk_calls _ _).mono ?_); rintro e w' ⟨rfl, ⟨nd, rfl⟩⟩)
    | (go_at_call 31; (with_reducible refine (names_Right.calls rest e _ HE.out).mono ?_); rintro e w1 ⟨rfl, hb1⟩))
  go_quiet ((go_at_call 55; exact Calls.quiet_of ((num_calls _ _ (by assumption)).mono fun _ _ ⟨he_, hd_⟩ => ⟨he_, hd_.out⟩)))
  go_wp2_with (first
    | (go_at_call 55; (with_reducible refine (num_calls _ _ (by assumption)).mono ?_); rintro e w' ⟨rfl, ⟨nd, rfl⟩⟩)
    | (go_at_call 56; (with_reducible refine (good_calls _ _).mono ?_); rintro e w' ⟨rfl, ⟨nd, rfl⟩⟩)
    | (go_at_call 57; (with_reducible refine (blk_calls _ _).mono ?_); rintro e w' ⟨rfl, ⟨nd, rfl⟩⟩)
    | (go_at_call 31; (with_reducible refine (names_Right.calls rest e _ HE.out).mono ?_); rintro e w1 ⟨rfl, hb1⟩))
  refine bodyPost_ret (results_list (rs := [.tmp 2, .tmp 3, .tmp 4, .tmp 5]) rfl (by simp) (.tmp (.tmp (.tmp (.tmp .nil))))) rfl ?_
  exact ⟨rfl, by repeat (first | exact Below.refl _ _ | apply pw_below_drewN | apply below_drew1)⟩
set_option maxHeartbeats 8000000 in
set_option maxRecDepth 100000 in
theorem kind_z1 (s rest pre : ByteArray) (e : Int) (w : World) (h3 : 3 ≤ s.size) (hrest : s.extract 3 s.size = rest) (hpre : s.extract 0 3 = pre)
    (f0 : (num2 s == 0) = false) (f1 : (num2 s != 0) = true) (f2 : goodInoB (num2 s) = true) (f3 : (bt s 2 == 1) = false) (f4 : (bt s 2 != 1) = true) (f5 : (bt s 2 == 2) = false) (f6 : (bt s 2 != 2) = true) (f7 : (bt s 2 == 3) = false) (f8 : (bt s 2 != 3) = true) : Calls Try.prog 30 #[.string s] w fun e w' => e = .returned (.tuple #[.int .i64 0, .int .i64 0, .string ⟨#[]⟩, .int .i64 0]) ∧ Below w.heap.size w w' := by
  have h2 : 2 ≤ s.size := by omega
  have a1 : decide ((s.size : Int) < 3) = false := decide_eq_false (by omega)
  have a2 : decide (s.size < 3) = false := decide_eq_false (by omega)
  have b0 : (3 ≤ (s.size : Int)) = True := eq_true (by omega)
  have b1 : decide (3 ≤ (s.size : Int)) = true := decide_eq_true (by omega)
  have b2 : (2 < s.size) = True := eq_true (by omega)
  have b3 : (2 < (s.size : Int)) = True := eq_true (by omega)
  have hx : ∀ h : 2 < s.size, ((s[2]'h).toNat : Int) = bt s 2 := bt_at s 2
  obtain ⟨r0, r1⟩ := bt_range s 2
  go_enter Try.func30, Try.ntmps30
  go_wp2_with (first
    | (go_at_call 55; (with_reducible refine (num_calls _ _ (by assumption)).mono ?_); rintro e w' ⟨rfl, ⟨nd, rfl⟩⟩)
    | (go_at_call 56; (with_reducible refine (good_calls _ _).mono ?_); rintro e w' ⟨rfl, ⟨nd, rfl⟩⟩)
    | (go_at_call 57; (with_reducible refine (blk_calls _ _).mono ?_); rintro e w' ⟨rfl, ⟨nd, rfl⟩⟩)
    | (go_at_call 31; (with_reducible refine (names_Right.calls rest e _ HE.out).mono ?_); rintro e w1 ⟨rfl, hb1⟩))
  go_quiet ((go_at_call 55; exact Calls.quiet_of ((num_calls _ _ (by assumption)).mono fun _ _ ⟨he_, hd_⟩ => ⟨he_, hd_.out⟩)))
  go_wp2_with (first
    | (go_at_call 55; (with_reducible refine (num_calls _ _ (by assumption)).mono ?_); rintro e w' ⟨rfl, ⟨nd, rfl⟩⟩)
    | (go_at_call 56; (with_reducible refine (good_calls _ _).mono ?_); rintro e w' ⟨rfl, ⟨nd, rfl⟩⟩)
    | (go_at_call 57; (with_reducible refine (blk_calls _ _).mono ?_); rintro e w' ⟨rfl, ⟨nd, rfl⟩⟩)
    | (go_at_call 31; (with_reducible refine (names_Right.calls rest e _ HE.out).mono ?_); rintro e w1 ⟨rfl, hb1⟩))
  refine bodyPost_ret (results_list (rs := [.tmp 2, .tmp 3, .tmp 4, .tmp 5]) rfl (by simp) (.tmp (.tmp (.tmp (.tmp .nil))))) rfl ?_
  exact ⟨rfl, by repeat (first | exact Below.refl _ _ | apply pw_below_drewN | apply below_drew1)⟩

/-- What a key is: a kind, a number, a name, a block's number. e: what names.Right says of what stands behind the third byte. -/
def kindK (orph : Bool) (e : Int) (n b : Int) (rest : ByteArray) : Int × Int × ByteArray × Int :=
  if orph && (rest.size == 2) && goodInoB (num2 rest) then (4, num2 rest, ⟨#[]⟩, 0)
  else if goodInoB n = false then (0, 0, ⟨#[]⟩, 0)
  else if b = 1 then (if rest.size = 0 then (1, n, ⟨#[]⟩, 0) else (0, 0, ⟨#[]⟩, 0))
  else if b = 2 then (if e = 0 then (2, n, rest, 0) else (0, 0, ⟨#[]⟩, 0))
  else if b = 3 then (if rest.size = 2 ∧ goodBlockB (num2 rest) = true then (3, n, ⟨#[]⟩, num2 rest) else (0, 0, ⟨#[]⟩, 0))
  else (0, 0, ⟨#[]⟩, 0)
theorem goodInoB_zero : goodInoB 0 = false := by decide
theorem empty_list (s : ByteArray) : (s.toList == ([] : List UInt8)) = decide (s.size = 0) := by
  rw [Lib.toList_data, Bool.eq_iff_iff]
  have : s.data.toList = [] ↔ s.size = 0 := by rw [← List.length_eq_zero_iff, Array.length_toList]; rfl
  simp only [beq_iff_eq, List.isEmpty_iff, decide_eq_true_eq]
  exact this
theorem num2_range (s : ByteArray) : 0 ≤ num2 s ∧ num2 s ≤ 65535 := by
  have r0 := bt_range s 0
  have r1 := bt_range s 1
  unfold num2
  omega
theorem isEmpty_eq (s : ByteArray) : s.toList.isEmpty = decide (s.size = 0) := by
  rw [Lib.toList_data, Bool.eq_iff_iff]
  have : s.data.toList = [] ↔ s.size = 0 := by rw [← List.length_eq_zero_iff, Array.length_toList]; rfl
  simp only [beq_iff_eq, List.isEmpty_iff, decide_eq_true_eq]
  exact this
def node_Kind.f (s : ByteArray) : Option (Int × Int × ByteArray × Int) :=
  if s.size < 3 then some (0, 0, ⟨#[]⟩, 0) else (names_Right.f (s.extract 3 s.size)).bind fun e => some (kindK ((num2 s == 0) && ((s.extract 0 3).toList == ([0, 0, 4] : List UInt8))) e (num2 s) (bt s 2) (s.extract 3 s.size))
theorem node_Kind.calls (s : ByteArray) (r1 : Int) (r2 : Int) (r3 : ByteArray) (r4 : Int) (w : World) (h : node_Kind.f s = some (r1, r2, r3, r4)) :
    Calls Try.prog 30 #[.string s] w fun e w' => e = .returned (.tuple #[.int .i64 r1, .int .i64 r2, .string r3, .int .i64 r4]) ∧ Below w.heap.size w w' := by
  unfold node_Kind.f at h
  by_cases h3 : s.size < 3
  · rw [if_pos h3] at h
    simp only [Option.some.injEq, Prod.mk.injEq] at h
    obtain ⟨rfl, rfl, rfl, rfl⟩ := h
    exact kind_s s w h3
  rw [if_neg h3] at h
  obtain ⟨e, he, h⟩ := Option.bind_eq_some_iff.mp h
  replace h := Option.some.inj h
  obtain ⟨rest, hrest⟩ : ∃ rest, s.extract 3 s.size = rest := ⟨_, rfl⟩
  obtain ⟨pre, hpre⟩ : ∃ pre, s.extract 0 3 = pre := ⟨_, rfl⟩
  rw [hrest] at he
  simp only [hrest, hpre] at h
  have h3' : 3 ≤ s.size := by omega
  have hB : ∀ (a b : Int), a = b → (a == b) = true ∧ (a != b) = false := fun a b h => by subst h; simp
  have hN : ∀ (a b : Int), ¬ a = b → (a == b) = false ∧ (a != b) = true := fun a b h => by simp [h]
  have hBn : ∀ (a b : Nat), a = b → (a == b) = true ∧ (a != b) = false := fun a b h => by subst h; simp
  have hNn : ∀ (a b : Nat), ¬ a = b → (a == b) = false ∧ (a != b) = true := fun a b h => by simp [h]
  by_cases hn : num2 s = 0
  · have hg : goodInoB (num2 s) = false := by rw [hn]; rfl
    by_cases ho : pre.toList = ([0, 0, 4] : List UInt8)
    · by_cases h2 : rest.size = 2
      · have h2' : (rest.size : Int) = 2 := by omega
        by_cases hg2 : goodInoB (num2 rest) = true
        · simp [kindK, hn, ho, h2, hg2] at h
          obtain ⟨rfl, rfl, rfl, rfl⟩ := h
          exact kind_o1 s rest pre 0 w h3' hrest hpre (by omega) (hB _ _ hn).1 (hB _ _ hn).2 (by simp [ho]) (by simp [ho]) (hB _ _ h2').1 (hB _ _ h2').2 (hBn _ _ h2).1 (hBn _ _ h2).2 hg2
        · replace hg2 : goodInoB (num2 rest) = false := Bool.eq_false_iff.mpr hg2
          simp [kindK, hn, ho, h2, hg2, goodInoB_zero] at h
          obtain ⟨rfl, rfl, rfl, rfl⟩ := h
          exact kind_o2 s rest pre 0 w h3' hrest hpre (by omega) (hB _ _ hn).1 (hB _ _ hn).2 hg (by simp [ho]) (by simp [ho]) (hB _ _ h2').1 (hB _ _ h2').2 (hBn _ _ h2).1 (hBn _ _ h2).2 hg2
      · have h2' : ¬ (rest.size : Int) = 2 := by omega
        simp [kindK, hn, ho, h2, goodInoB_zero] at h
        obtain ⟨rfl, rfl, rfl, rfl⟩ := h
        exact kind_o3 s rest pre 0 w h3' hrest hpre (hB _ _ hn).1 (hB _ _ hn).2 hg (by simp [ho]) (by simp [ho]) (hN _ _ h2').1 (hN _ _ h2').2 (hNn _ _ h2).1 (hNn _ _ h2).2
    · simp [kindK, hn, ho, goodInoB_zero] at h
      obtain ⟨rfl, rfl, rfl, rfl⟩ := h
      exact kind_o4 s rest pre 0 w h3' hrest hpre (hB _ _ hn).1 (hB _ _ hn).2 hg (by simp [ho]) (by simp [ho])
  by_cases hg : goodInoB (num2 s) = true
  rotate_left
  · replace hg : goodInoB (num2 s) = false := Bool.eq_false_iff.mpr hg
    simp [kindK, hn, hg] at h
    obtain ⟨rfl, rfl, rfl, rfl⟩ := h
    exact kind_b1 s rest pre 0 w h3' hrest hpre (hN _ _ hn).1 (hN _ _ hn).2 hg
  · by_cases hb1 : bt s 2 = 1
    · have hb2 : ¬ bt s 2 = 2 := by omega
      have hb3 : ¬ bt s 2 = 3 := by omega
      by_cases hz : rest.size = 0
      · simp only [kindK, hn, hg, hb1, hz] at h
        simp [hn] at h
        obtain ⟨rfl, rfl, rfl, rfl⟩ := h
        exact kind_i1 s rest pre 0 w h3' hrest hpre (hN _ _ hn).1 (hN _ _ hn).2 hg (hB _ _ hb1).1 (hB _ _ hb1).2 (by rw [empty_list]; simp [hz]) (by rw [bne, empty_list]; simp [hz]) (by rw [isEmpty_eq]; simp [hz]) (by rw [isEmpty_eq]; simp [hz])
      · simp only [kindK, hn, hg, hb1, hz] at h
        simp [hn] at h
        obtain ⟨rfl, rfl, rfl, rfl⟩ := h
        exact kind_i2 s rest pre 0 w h3' hrest hpre (hN _ _ hn).1 (hN _ _ hn).2 hg (hB _ _ hb1).1 (hB _ _ hb1).2 (hN _ _ hb2).1 (hN _ _ hb2).2 (hN _ _ hb3).1 (hN _ _ hb3).2 (by rw [empty_list]; simp [hz]) (by rw [bne, empty_list]; simp [hz]) (by rw [isEmpty_eq]; simp [hz]) (by rw [isEmpty_eq]; simp [hz])
    by_cases hb2 : bt s 2 = 2
    · have hb3 : ¬ bt s 2 = 3 := by omega
      by_cases h0 : e = 0
      · simp [kindK, hn, hg, hb2, h0] at h
        obtain ⟨rfl, rfl, rfl, rfl⟩ := h
        exact kind_e1 s rest pre e w h3' hrest hpre he (hN _ _ hn).1 (hN _ _ hn).2 hg (hN _ _ hb1).1 (hN _ _ hb1).2 (hB _ _ hb2).1 (hB _ _ hb2).2 (hB _ _ h0).1 (hB _ _ h0).2
      · simp [kindK, hn, hg, hb2, h0] at h
        obtain ⟨rfl, rfl, rfl, rfl⟩ := h
        exact kind_e2 s rest pre e w h3' hrest hpre he (hN _ _ hn).1 (hN _ _ hn).2 hg (hN _ _ hb1).1 (hN _ _ hb1).2 (hB _ _ hb2).1 (hB _ _ hb2).2 (hN _ _ hb3).1 (hN _ _ hb3).2 (hN _ _ h0).1 (hN _ _ h0).2
    by_cases hb3 : bt s 2 = 3
    · by_cases h2 : rest.size = 2
      · have h2' : (rest.size : Int) = 2 := by omega
        by_cases hk : goodBlockB (num2 rest) = true
        · simp [kindK, hn, hg, hb3, h2, hk] at h
          obtain ⟨rfl, rfl, rfl, rfl⟩ := h
          exact kind_k1 s rest pre 0 w h3' hrest hpre (by omega) (hN _ _ hn).1 (hN _ _ hn).2 hg (hN _ _ hb1).1 (hN _ _ hb1).2 (hN _ _ hb2).1 (hN _ _ hb2).2 (hB _ _ hb3).1 (hB _ _ hb3).2 (hB _ _ h2').1 (hB _ _ h2').2 (hBn _ _ h2).1 (hBn _ _ h2).2 hk
        · replace hk : goodBlockB (num2 rest) = false := Bool.eq_false_iff.mpr hk
          simp [kindK, hn, hg, hb3, h2, hk] at h
          obtain ⟨rfl, rfl, rfl, rfl⟩ := h
          exact kind_k2 s rest pre 0 w h3' hrest hpre (by omega) (hN _ _ hn).1 (hN _ _ hn).2 hg (hN _ _ hb1).1 (hN _ _ hb1).2 (hN _ _ hb2).1 (hN _ _ hb2).2 (hB _ _ hb3).1 (hB _ _ hb3).2 (hB _ _ h2').1 (hB _ _ h2').2 (hBn _ _ h2).1 (hBn _ _ h2).2 hk
      · have h2' : ¬ (rest.size : Int) = 2 := by omega
        simp [kindK, hn, hg, hb3, h2] at h
        obtain ⟨rfl, rfl, rfl, rfl⟩ := h
        exact kind_k3 s rest pre 0 w h3' hrest hpre (hN _ _ hn).1 (hN _ _ hn).2 hg (hN _ _ hb1).1 (hN _ _ hb1).2 (hN _ _ hb2).1 (hN _ _ hb2).2 (hB _ _ hb3).1 (hB _ _ hb3).2 (hN _ _ h2').1 (hN _ _ h2').2 (hNn _ _ h2).1 (hNn _ _ h2).2
    simp [kindK, hn, hg, hb1, hb2, hb3] at h
    obtain ⟨rfl, rfl, rfl, rfl⟩ := h
    exact kind_z1 s rest pre 0 w h3' hrest hpre (hN _ _ hn).1 (hN _ _ hn).2 hg (hN _ _ hb1).1 (hN _ _ hb1).2 (hN _ _ hb2).1 (hN _ _ hb2).2 (hN _ _ hb3).1 (hN _ _ hb3).2
end Go.Proofs.Ytakchpeohmkpkaa.Q

namespace Go.Proofs.Ytakchpeohmkpkaa.Q
open Go.RowKit Go.Proofs.YtakchpeohmkpkaaW.PrintWords Go.Proofs.YtakchpeohmkpkaaW.PrintLast Go.Proofs.YtakchpeohmkpkaaW.PrintMore
set_option linter.unusedVariables false
set_option linter.unusedSimpArgs false
theorem rnum_f (s : ByteArray) (h : 2 ≤ s.size) : pumiceref06_number.f s = some (num2 s) := by
  unfold pumiceref06_number.f num2
  rw [if_pos (by omega), if_pos (by omega)]
  have r0 := bt_range s 0
  have r1 := bt_range s 1
  congr 1
  unfold wrap64
  omega
theorem rnum_calls (s : ByteArray) (w : World) (h : 2 ≤ s.size) : Calls Try.prog 73 #[.string s] w fun e w' => e = .returned (.int .i64 (num2 s)) ∧ Drawn0 w w' := pumiceref06_number.calls s _ w (rnum_f s h)
theorem rgood_calls (a : Int) (w : World) : Calls Try.prog 65 #[.int .i64 a] w fun e w' => e = .returned (.bool (goodInoB a)) ∧ Drawn0 w w' := by
  refine pumiceref06_Ino.calls a _ w ?_
  unfold pumiceref06_Ino.f goodInoB
  by_cases h : a ≥ 1 <;> simp [h] <;> omega
set_option maxHeartbeats 8000000 in
set_option maxRecDepth 100000 in
theorem rkind_s (s : ByteArray) (w : World) (h3 : s.size < 3) : Calls Try.prog 62 #[.string s] w fun e w' => e = .returned (.tuple #[.int .i64 0, .int .i64 0, .string ⟨#[]⟩, .int .i64 0]) ∧ Below w.heap.size w w' := by
  have a1 : decide ((s.size : Int) < 3) = true := decide_eq_true (by omega)
  have a2 : decide (s.size < 3) = true := decide_eq_true (by omega)
  go_enter Try.func62, Try.ntmps62
  go_wp2
  refine bodyPost_ret (results_list (rs := [.tmp 2, .tmp 3, .tmp 4, .tmp 5]) rfl (by simp) (.tmp (.tmp (.tmp (.tmp .nil))))) rfl ?_
  exact ⟨rfl, Below.refl _ _⟩
set_option maxHeartbeats 8000000 in
set_option maxRecDepth 100000 in
theorem rkind_o1 (s rest pre : ByteArray) (kk : Nat) (e : Int) (w : World) (h3 : 3 ≤ s.size) (hrest : s.extract 3 s.size = rest) (hpre : s.extract 0 3 = pre) (hr2 : 2 ≤ rest.size)
    (f0 : (num2 s == 0) = true) (f1 : (num2 s != 0) = false) (f2 : (bt s 2 == 4) = true) (f3 : (bt s 2 != 4) = false) (f4 : ((rest.size : Int) == 2) = true) (f5 : ((rest.size : Int) != 2) = false) (f6 : (rest.size == 2) = true) (f7 : (rest.size != 2) = false) (f8 : goodInoB (num2 rest) = true) : Calls Try.prog 62 #[.string s] w fun e w' => e = .returned (.tuple #[.int .i64 4, .int .i64 (num2 rest), .string ⟨#[]⟩, .int .i64 0]) ∧ Below w.heap.size w w' := by
  have h2 : 2 ≤ s.size := by omega
  have a1 : decide ((s.size : Int) < 3) = false := decide_eq_false (by omega)
  have a2 : decide (s.size < 3) = false := decide_eq_false (by omega)
  have b0 : (3 ≤ (s.size : Int)) = True := eq_true (by omega)
  have b1 : decide (3 ≤ (s.size : Int)) = true := decide_eq_true (by omega)
  have b2 : (2 < s.size) = True := eq_true (by omega)
  have b3 : (2 < (s.size : Int)) = True := eq_true (by omega)
  have hx : ∀ h : 2 < s.size, ((s[2]'h).toNat : Int) = bt s 2 := bt_at s 2
  obtain ⟨r0, r1⟩ := bt_range s 2
  go_enter Try.func62, Try.ntmps62
  go_wp2_with (first
    | (go_at_call 73; (with_reducible refine (rnum_calls _ _ (by assumption)).mono ?_); rintro e w' ⟨rfl, ⟨nd, rfl⟩⟩)
    | (go_at_call 65; (with_reducible refine (rgood_calls _ _).mono ?_); rintro e w' ⟨rfl, ⟨nd, rfl⟩⟩)
    | (go_at_call 66; (with_reducible refine (pumiceref02_Right.calls kk rest e _ HE.out).mono ?_); rintro e w' ⟨rfl, ⟨nd, rfl⟩⟩))
  refine bodyPost_ret (results_list (rs := [.tmp 2, .tmp 3, .tmp 4, .tmp 5]) rfl (by simp) (.tmp (.tmp (.tmp (.tmp .nil))))) rfl ?_
  exact ⟨rfl, by repeat (first | exact Below.refl _ _ | apply pw_below_drewN | apply below_drew1)⟩
set_option maxHeartbeats 8000000 in
set_option maxRecDepth 100000 in
theorem rkind_o2 (s rest pre : ByteArray) (kk : Nat) (e : Int) (w : World) (h3 : 3 ≤ s.size) (hrest : s.extract 3 s.size = rest) (hpre : s.extract 0 3 = pre) (hr2 : 2 ≤ rest.size)
    (f0 : (num2 s == 0) = true) (f1 : (num2 s != 0) = false) (f2 : goodInoB (num2 s) = false) (f3 : (bt s 2 == 4) = true) (f4 : (bt s 2 != 4) = false) (f5 : ((rest.size : Int) == 2) = true) (f6 : ((rest.size : Int) != 2) = false) (f7 : (rest.size == 2) = true) (f8 : (rest.size != 2) = false) (f9 : goodInoB (num2 rest) = false) : Calls Try.prog 62 #[.string s] w fun e w' => e = .returned (.tuple #[.int .i64 0, .int .i64 0, .string ⟨#[]⟩, .int .i64 0]) ∧ Below w.heap.size w w' := by
  have h2 : 2 ≤ s.size := by omega
  have a1 : decide ((s.size : Int) < 3) = false := decide_eq_false (by omega)
  have a2 : decide (s.size < 3) = false := decide_eq_false (by omega)
  have b0 : (3 ≤ (s.size : Int)) = True := eq_true (by omega)
  have b1 : decide (3 ≤ (s.size : Int)) = true := decide_eq_true (by omega)
  have b2 : (2 < s.size) = True := eq_true (by omega)
  have b3 : (2 < (s.size : Int)) = True := eq_true (by omega)
  have hx : ∀ h : 2 < s.size, ((s[2]'h).toNat : Int) = bt s 2 := bt_at s 2
  obtain ⟨r0, r1⟩ := bt_range s 2
  go_enter Try.func62, Try.ntmps62
  go_wp2_with (first
    | (go_at_call 73; (with_reducible refine (rnum_calls _ _ (by assumption)).mono ?_); rintro e w' ⟨rfl, ⟨nd, rfl⟩⟩)
    | (go_at_call 65; (with_reducible refine (rgood_calls _ _).mono ?_); rintro e w' ⟨rfl, ⟨nd, rfl⟩⟩)
    | (go_at_call 66; (with_reducible refine (pumiceref02_Right.calls kk rest e _ HE.out).mono ?_); rintro e w' ⟨rfl, ⟨nd, rfl⟩⟩))
  refine bodyPost_ret (results_list (rs := [.tmp 2, .tmp 3, .tmp 4, .tmp 5]) rfl (by simp) (.tmp (.tmp (.tmp (.tmp .nil))))) rfl ?_
  exact ⟨rfl, by repeat (first | exact Below.refl _ _ | apply pw_below_drewN | apply below_drew1)⟩
set_option maxHeartbeats 8000000 in
set_option maxRecDepth 100000 in
theorem rkind_o3 (s rest pre : ByteArray) (kk : Nat) (e : Int) (w : World) (h3 : 3 ≤ s.size) (hrest : s.extract 3 s.size = rest) (hpre : s.extract 0 3 = pre)
    (f0 : (num2 s == 0) = true) (f1 : (num2 s != 0) = false) (f2 : goodInoB (num2 s) = false) (f3 : (bt s 2 == 4) = true) (f4 : (bt s 2 != 4) = false) (f5 : ((rest.size : Int) == 2) = false) (f6 : ((rest.size : Int) != 2) = true) (f7 : (rest.size == 2) = false) (f8 : (rest.size != 2) = true) : Calls Try.prog 62 #[.string s] w fun e w' => e = .returned (.tuple #[.int .i64 0, .int .i64 0, .string ⟨#[]⟩, .int .i64 0]) ∧ Below w.heap.size w w' := by
  have h2 : 2 ≤ s.size := by omega
  have a1 : decide ((s.size : Int) < 3) = false := decide_eq_false (by omega)
  have a2 : decide (s.size < 3) = false := decide_eq_false (by omega)
  have b0 : (3 ≤ (s.size : Int)) = True := eq_true (by omega)
  have b1 : decide (3 ≤ (s.size : Int)) = true := decide_eq_true (by omega)
  have b2 : (2 < s.size) = True := eq_true (by omega)
  have b3 : (2 < (s.size : Int)) = True := eq_true (by omega)
  have hx : ∀ h : 2 < s.size, ((s[2]'h).toNat : Int) = bt s 2 := bt_at s 2
  obtain ⟨r0, r1⟩ := bt_range s 2
  go_enter Try.func62, Try.ntmps62
  go_wp2_with (first
    | (go_at_call 73; (with_reducible refine (rnum_calls _ _ (by assumption)).mono ?_); rintro e w' ⟨rfl, ⟨nd, rfl⟩⟩)
    | (go_at_call 65; (with_reducible refine (rgood_calls _ _).mono ?_); rintro e w' ⟨rfl, ⟨nd, rfl⟩⟩)
    | (go_at_call 66; (with_reducible refine (pumiceref02_Right.calls kk rest e _ HE.out).mono ?_); rintro e w' ⟨rfl, ⟨nd, rfl⟩⟩))
  refine bodyPost_ret (results_list (rs := [.tmp 2, .tmp 3, .tmp 4, .tmp 5]) rfl (by simp) (.tmp (.tmp (.tmp (.tmp .nil))))) rfl ?_
  exact ⟨rfl, by repeat (first | exact Below.refl _ _ | apply pw_below_drewN | apply below_drew1)⟩
set_option maxHeartbeats 8000000 in
set_option maxRecDepth 100000 in
theorem rkind_o4 (s rest pre : ByteArray) (kk : Nat) (e : Int) (w : World) (h3 : 3 ≤ s.size) (hrest : s.extract 3 s.size = rest) (hpre : s.extract 0 3 = pre)
    (f0 : (num2 s == 0) = true) (f1 : (num2 s != 0) = false) (f2 : goodInoB (num2 s) = false) (f3 : (bt s 2 == 4) = false) (f4 : (bt s 2 != 4) = true) : Calls Try.prog 62 #[.string s] w fun e w' => e = .returned (.tuple #[.int .i64 0, .int .i64 0, .string ⟨#[]⟩, .int .i64 0]) ∧ Below w.heap.size w w' := by
  have h2 : 2 ≤ s.size := by omega
  have a1 : decide ((s.size : Int) < 3) = false := decide_eq_false (by omega)
  have a2 : decide (s.size < 3) = false := decide_eq_false (by omega)
  have b0 : (3 ≤ (s.size : Int)) = True := eq_true (by omega)
  have b1 : decide (3 ≤ (s.size : Int)) = true := decide_eq_true (by omega)
  have b2 : (2 < s.size) = True := eq_true (by omega)
  have b3 : (2 < (s.size : Int)) = True := eq_true (by omega)
  have hx : ∀ h : 2 < s.size, ((s[2]'h).toNat : Int) = bt s 2 := bt_at s 2
  obtain ⟨r0, r1⟩ := bt_range s 2
  go_enter Try.func62, Try.ntmps62
  go_wp2_with (first
    | (go_at_call 73; (with_reducible refine (rnum_calls _ _ (by assumption)).mono ?_); rintro e w' ⟨rfl, ⟨nd, rfl⟩⟩)
    | (go_at_call 65; (with_reducible refine (rgood_calls _ _).mono ?_); rintro e w' ⟨rfl, ⟨nd, rfl⟩⟩)
    | (go_at_call 66; (with_reducible refine (pumiceref02_Right.calls kk rest e _ HE.out).mono ?_); rintro e w' ⟨rfl, ⟨nd, rfl⟩⟩))
  refine bodyPost_ret (results_list (rs := [.tmp 2, .tmp 3, .tmp 4, .tmp 5]) rfl (by simp) (.tmp (.tmp (.tmp (.tmp .nil))))) rfl ?_
  exact ⟨rfl, by repeat (first | exact Below.refl _ _ | apply pw_below_drewN | apply below_drew1)⟩
set_option maxHeartbeats 8000000 in
set_option maxRecDepth 100000 in
theorem rkind_b1 (s rest pre : ByteArray) (kk : Nat) (e : Int) (w : World) (h3 : 3 ≤ s.size) (hrest : s.extract 3 s.size = rest) (hpre : s.extract 0 3 = pre)
    (f0 : (num2 s == 0) = false) (f1 : (num2 s != 0) = true) (f2 : goodInoB (num2 s) = false) : Calls Try.prog 62 #[.string s] w fun e w' => e = .returned (.tuple #[.int .i64 0, .int .i64 0, .string ⟨#[]⟩, .int .i64 0]) ∧ Below w.heap.size w w' := by
  have h2 : 2 ≤ s.size := by omega
  have a1 : decide ((s.size : Int) < 3) = false := decide_eq_false (by omega)
  have a2 : decide (s.size < 3) = false := decide_eq_false (by omega)
  have b0 : (3 ≤ (s.size : Int)) = True := eq_true (by omega)
  have b1 : decide (3 ≤ (s.size : Int)) = true := decide_eq_true (by omega)
  have b2 : (2 < s.size) = True := eq_true (by omega)
  have b3 : (2 < (s.size : Int)) = True := eq_true (by omega)
  have hx : ∀ h : 2 < s.size, ((s[2]'h).toNat : Int) = bt s 2 := bt_at s 2
  obtain ⟨r0, r1⟩ := bt_range s 2
  go_enter Try.func62, Try.ntmps62
  go_wp2_with (first
    | (go_at_call 73; (with_reducible refine (rnum_calls _ _ (by assumption)).mono ?_); rintro e w' ⟨rfl, ⟨nd, rfl⟩⟩)
    | (go_at_call 65; (with_reducible refine (rgood_calls _ _).mono ?_); rintro e w' ⟨rfl, ⟨nd, rfl⟩⟩)
    | (go_at_call 66; (with_reducible refine (pumiceref02_Right.calls kk rest e _ HE.out).mono ?_); rintro e w' ⟨rfl, ⟨nd, rfl⟩⟩))
  refine bodyPost_ret (results_list (rs := [.tmp 2, .tmp 3, .tmp 4, .tmp 5]) rfl (by simp) (.tmp (.tmp (.tmp (.tmp .nil))))) rfl ?_
  exact ⟨rfl, by repeat (first | exact Below.refl _ _ | apply pw_below_drewN | apply below_drew1)⟩
set_option maxHeartbeats 8000000 in
set_option maxRecDepth 100000 in
theorem rkind_i1 (s rest pre : ByteArray) (kk : Nat) (e : Int) (w : World) (h3 : 3 ≤ s.size) (hrest : s.extract 3 s.size = rest) (hpre : s.extract 0 3 = pre)
    (f0 : (num2 s == 0) = false) (f1 : (num2 s != 0) = true) (f2 : goodInoB (num2 s) = true) (f3 : (bt s 2 == 1) = true) (f4 : (bt s 2 != 1) = false) (f5 : (rest.toList == ([] : List UInt8)) = true) (f6 : (rest.toList != ([] : List UInt8)) = false) (f7 : rest.toList.isEmpty = true) (f8 : (!rest.toList.isEmpty) = false) : Calls Try.prog 62 #[.string s] w fun e w' => e = .returned (.tuple #[.int .i64 1, .int .i64 (num2 s), .string ⟨#[]⟩, .int .i64 0]) ∧ Below w.heap.size w w' := by
  have h2 : 2 ≤ s.size := by omega
  have a1 : decide ((s.size : Int) < 3) = false := decide_eq_false (by omega)
  have a2 : decide (s.size < 3) = false := decide_eq_false (by omega)
  have b0 : (3 ≤ (s.size : Int)) = True := eq_true (by omega)
  have b1 : decide (3 ≤ (s.size : Int)) = true := decide_eq_true (by omega)
  have b2 : (2 < s.size) = True := eq_true (by omega)
  have b3 : (2 < (s.size : Int)) = True := eq_true (by omega)
  have hx : ∀ h : 2 < s.size, ((s[2]'h).toNat : Int) = bt s 2 := bt_at s 2
  obtain ⟨r0, r1⟩ := bt_range s 2
  go_enter Try.func62, Try.ntmps62
  go_wp2_with (first
    | (go_at_call 73; (with_reducible refine (rnum_calls _ _ (by assumption)).mono ?_); rintro e w' ⟨rfl, ⟨nd, rfl⟩⟩)
    | (go_at_call 65; (with_reducible refine (rgood_calls _ _).mono ?_); rintro e w' ⟨rfl, ⟨nd, rfl⟩⟩)
    | (go_at_call 66; (with_reducible refine (pumiceref02_Right.calls kk rest e _ HE.out).mono ?_); rintro e w' ⟨rfl, ⟨nd, rfl⟩⟩))
  refine bodyPost_ret (results_list (rs := [.tmp 2, .tmp 3, .tmp 4, .tmp 5]) rfl (by simp) (.tmp (.tmp (.tmp (.tmp .nil))))) rfl ?_
  exact ⟨rfl, by repeat (first | exact Below.refl _ _ | apply pw_below_drewN | apply below_drew1)⟩
set_option maxHeartbeats 8000000 in
set_option maxRecDepth 100000 in
theorem rkind_i2 (s rest pre : ByteArray) (kk : Nat) (e : Int) (w : World) (h3 : 3 ≤ s.size) (hrest : s.extract 3 s.size = rest) (hpre : s.extract 0 3 = pre)
    (f0 : (num2 s == 0) = false) (f1 : (num2 s != 0) = true) (f2 : goodInoB (num2 s) = true) (f3 : (bt s 2 == 1) = true) (f4 : (bt s 2 != 1) = false) (f5 : (bt s 2 == 2) = false) (f6 : (bt s 2 != 2) = true) (f7 : (bt s 2 == 3) = false) (f8 : (bt s 2 != 3) = true) (f9 : (rest.toList == ([] : List UInt8)) = false) (f10 : (rest.toList != ([] : List UInt8)) = true) (f11 : rest.toList.isEmpty = false) (f12 : (!rest.toList.isEmpty) = true) : Calls Try.prog 62 #[.string s] w fun e w' => e = .returned (.tuple #[.int .i64 0, .int .i64 0, .string ⟨#[]⟩, .int .i64 0]) ∧ Below w.heap.size w w' := by
  have h2 : 2 ≤ s.size := by omega
  have a1 : decide ((s.size : Int) < 3) = false := decide_eq_false (by omega)
  have a2 : decide (s.size < 3) = false := decide_eq_false (by omega)
  have b0 : (3 ≤ (s.size : Int)) = True := eq_true (by omega)
  have b1 : decide (3 ≤ (s.size : Int)) = true := decide_eq_true (by omega)
  have b2 : (2 < s.size) = True := eq_true (by omega)
  have b3 : (2 < (s.size : Int)) = True := eq_true (by omega)
  have hx : ∀ h : 2 < s.size, ((s[2]'h).toNat : Int) = bt s 2 := bt_at s 2
  obtain ⟨r0, r1⟩ := bt_range s 2
  go_enter Try.func62, Try.ntmps62
  go_wp2_with (first
    | (go_at_call 73; (with_reducible refine (rnum_calls _ _ (by assumption)).mono ?_); rintro e w' ⟨rfl, ⟨nd, rfl⟩⟩)
    | (go_at_call 65; (with_reducible refine (rgood_calls _ _).mono ?_); rintro e w' ⟨rfl, ⟨nd, rfl⟩⟩)
    | (go_at_call 66; (with_reducible refine (pumiceref02_Right.calls kk rest e _ HE.out).mono ?_); rintro e w' ⟨rfl, ⟨nd, rfl⟩⟩))
  refine bodyPost_ret (results_list (rs := [.tmp 2, .tmp 3, .tmp 4, .tmp 5]) rfl (by simp) (.tmp (.tmp (.tmp (.tmp .nil))))) rfl ?_
  exact ⟨rfl, by repeat (first | exact Below.refl _ _ | apply pw_below_drewN | apply below_drew1)⟩
set_option maxHeartbeats 8000000 in
set_option maxRecDepth 100000 in
theorem rkind_e1 (s rest pre : ByteArray) (kk : Nat) (e : Int) (w : World) (h3 : 3 ≤ s.size) (hrest : s.extract 3 s.size = rest) (hpre : s.extract 0 3 = pre) (hR : pumiceref02_Right.f kk rest = some e)
    (f0 : (num2 s == 0) = false) (f1 : (num2 s != 0) = true) (f2 : goodInoB (num2 s) = true) (f3 : (bt s 2 == 1) = false) (f4 : (bt s 2 != 1) = true) (f5 : (bt s 2 == 2) = true) (f6 : (bt s 2 != 2) = false) (f7 : (e == 0) = true) (f8 : (e != 0) = false) : Calls Try.prog 62 #[.string s] w fun e w' => e = .returned (.tuple #[.int .i64 2, .int .i64 (num2 s), .string rest, .int .i64 0]) ∧ Below w.heap.size w w' := by
  have h2 : 2 ≤ s.size := by omega
  have a1 : decide ((s.size : Int) < 3) = false := decide_eq_false (by omega)
  have a2 : decide (s.size < 3) = false := decide_eq_false (by omega)
  have b0 : (3 ≤ (s.size : Int)) = True := eq_true (by omega)
  have b1 : decide (3 ≤ (s.size : Int)) = true := decide_eq_true (by omega)
  have b2 : (2 < s.size) = True := eq_true (by omega)
  have b3 : (2 < (s.size : Int)) = True := eq_true (by omega)
  have hx : ∀ h : 2 < s.size, ((s[2]'h).toNat : Int) = bt s 2 := bt_at s 2
  obtain ⟨r0, r1⟩ := bt_range s 2
  have HE := Aside0.mk hR
  clear hR
  go_enter Try.func62, Try.ntmps62
  go_wp2_with (first
    | (go_at_call 73; (with_reducible refine (rnum_calls _ _ (by assumption)).mono ?_); rintro e w' ⟨rfl, ⟨nd, rfl⟩⟩)
    | (go_at_call 65; (with_reducible refine (rgood_calls _ _).mono ?_); rintro e w' ⟨rfl, ⟨nd, rfl⟩⟩)
    | (go_at_call 66; (with_reducible refine (pumiceref02_Right.calls kk rest e _ HE.out).mono ?_); rintro e w' ⟨rfl, ⟨nd, rfl⟩⟩))
  refine bodyPost_ret (results_list (rs := [.tmp 2, .tmp 3, .tmp 4, .tmp 5]) rfl (by simp) (.tmp (.tmp (.tmp (.tmp .nil))))) rfl ?_
  exact ⟨rfl, by repeat (first | exact Below.refl _ _ | exact ⟨hb1.os, hb1.tape, hb1.output, hb1.size, hb1.block⟩ | apply pw_below_drewN | apply below_drew1)⟩
set_option maxHeartbeats 8000000 in
set_option maxRecDepth 100000 in
theorem rkind_e2 (s rest pre : ByteArray) (kk : Nat) (e : Int) (w : World) (h3 : 3 ≤ s.size) (hrest : s.extract 3 s.size = rest) (hpre : s.extract 0 3 = pre) (hR : pumiceref02_Right.f kk rest = some e)
    (f0 : (num2 s == 0) = false) (f1 : (num2 s != 0) = true) (f2 : goodInoB (num2 s) = true) (f3 : (bt s 2 == 1) = false) (f4 : (bt s 2 != 1) = true) (f5 : (bt s 2 == 2) = true) (f6 : (bt s 2 != 2) = false) (f7 : (bt s 2 == 3) = false) (f8 : (bt s 2 != 3) = true) (f9 : (e == 0) = false) (f10 : (e != 0) = true) : Calls Try.prog 62 #[.string s] w fun e w' => e = .returned (.tuple #[.int .i64 0, .int .i64 0, .string ⟨#[]⟩, .int .i64 0]) ∧ Below w.heap.size w w' := by
  have h2 : 2 ≤ s.size := by omega
  have a1 : decide ((s.size : Int) < 3) = false := decide_eq_false (by omega)
  have a2 : decide (s.size < 3) = false := decide_eq_false (by omega)
  have b0 : (3 ≤ (s.size : Int)) = True := eq_true (by omega)
  have b1 : decide (3 ≤ (s.size : Int)) = true := decide_eq_true (by omega)
  have b2 : (2 < s.size) = True := eq_true (by omega)
  have b3 : (2 < (s.size : Int)) = True := eq_true (by omega)
  have hx : ∀ h : 2 < s.size, ((s[2]'h).toNat : Int) = bt s 2 := bt_at s 2
  obtain ⟨r0, r1⟩ := bt_range s 2
  have HE := Aside0.mk hR
  clear hR
  go_enter Try.func62, Try.ntmps62
  go_wp2_with (first
    | (go_at_call 73; (with_reducible refine (rnum_calls _ _ (by assumption)).mono ?_); rintro e w' ⟨rfl, ⟨nd, rfl⟩⟩)
    | (go_at_call 65; (with_reducible refine (rgood_calls _ _).mono ?_); rintro e w' ⟨rfl, ⟨nd, rfl⟩⟩)
    | (go_at_call 66; (with_reducible refine (pumiceref02_Right.calls kk rest e _ HE.out).mono ?_); rintro e w' ⟨rfl, ⟨nd, rfl⟩⟩))
  refine bodyPost_ret (results_list (rs := [.tmp 2, .tmp 3, .tmp 4, .tmp 5]) rfl (by simp) (.tmp (.tmp (.tmp (.tmp .nil))))) rfl ?_
  exact ⟨rfl, by repeat (first | exact Below.refl _ _ | exact ⟨hb1.os, hb1.tape, hb1.output, hb1.size, hb1.block⟩ | apply pw_below_drewN | apply below_drew1)⟩
set_option maxHeartbeats 8000000 in
set_option maxRecDepth 100000 in
theorem rkind_k1 (s rest pre : ByteArray) (kk : Nat) (e : Int) (w : World) (h3 : 3 ≤ s.size) (hrest : s.extract 3 s.size = rest) (hpre : s.extract 0 3 = pre) (hr2 : 2 ≤ rest.size)
    (f0 : (num2 s == 0) = false) (f1 : (num2 s != 0) = true) (f2 : goodInoB (num2 s) = true) (f3 : (bt s 2 == 1) = false) (f4 : (bt s 2 != 1) = true) (f5 : (bt s 2 == 2) = false) (f6 : (bt s 2 != 2) = true) (f7 : (bt s 2 == 3) = true) (f8 : (bt s 2 != 3) = false) (f9 : ((rest.size : Int) == 2) = true) (f10 : ((rest.size : Int) != 2) = false) (f11 : (rest.size == 2) = true) (f12 : (rest.size != 2) = false) (f13 : decide (num2 rest < 128) = true) : Calls Try.prog 62 #[.string s] w fun e w' => e = .returned (.tuple #[.int .i64 3, .int .i64 (num2 s), .string ⟨#[]⟩, .int .i64 (num2 rest)]) ∧ Below w.heap.size w w' := by
  have h2 : 2 ≤ s.size := by omega
  have a1 : decide ((s.size : Int) < 3) = false := decide_eq_false (by omega)
  have a2 : decide (s.size < 3) = false := decide_eq_false (by omega)
  have b0 : (3 ≤ (s.size : Int)) = True := eq_true (by omega)
  have b1 : decide (3 ≤ (s.size : Int)) = true := decide_eq_true (by omega)
  have b2 : (2 < s.size) = True := eq_true (by omega)
  have b3 : (2 < (s.size : Int)) = True := eq_true (by omega)
  have hx : ∀ h : 2 < s.size, ((s[2]'h).toNat : Int) = bt s 2 := bt_at s 2
  obtain ⟨r0, r1⟩ := bt_range s 2
  go_enter Try.func62, Try.ntmps62
  go_wp2_with (first
    | (go_at_call 73; (with_reducible refine (rnum_calls _ _ (by assumption)).mono ?_); rintro e w' ⟨rfl, ⟨nd, rfl⟩⟩)
    | (go_at_call 65; (with_reducible refine (rgood_calls _ _).mono ?_); rintro e w' ⟨rfl, ⟨nd, rfl⟩⟩)
    | (go_at_call 66; (with_reducible refine (pumiceref02_Right.calls kk rest e _ HE.out).mono ?_); rintro e w' ⟨rfl, ⟨nd, rfl⟩⟩))
  refine bodyPost_ret (results_list (rs := [.tmp 2, .tmp 3, .tmp 4, .tmp 5]) rfl (by simp) (.tmp (.tmp (.tmp (.tmp .nil))))) rfl ?_
  exact ⟨rfl, by repeat (first | exact Below.refl _ _ | apply pw_below_drewN | apply below_drew1)⟩
set_option maxHeartbeats 8000000 in
set_option maxRecDepth 100000 in
theorem rkind_k2 (s rest pre : ByteArray) (kk : Nat) (e : Int) (w : World) (h3 : 3 ≤ s.size) (hrest : s.extract 3 s.size = rest) (hpre : s.extract 0 3 = pre) (hr2 : 2 ≤ rest.size)
    (f0 : (num2 s == 0) = false) (f1 : (num2 s != 0) = true) (f2 : goodInoB (num2 s) = true) (f3 : (bt s 2 == 1) = false) (f4 : (bt s 2 != 1) = true) (f5 : (bt s 2 == 2) = false) (f6 : (bt s 2 != 2) = true) (f7 : (bt s 2 == 3) = true) (f8 : (bt s 2 != 3) = false) (f9 : ((rest.size : Int) == 2) = true) (f10 : ((rest.size : Int) != 2) = false) (f11 : (rest.size == 2) = true) (f12 : (rest.size != 2) = false) (f13 : decide (num2 rest < 128) = false) : Calls Try.prog 62 #[.string s] w fun e w' => e = .returned (.tuple #[.int .i64 0, .int .i64 0, .string ⟨#[]⟩, .int .i64 0]) ∧ Below w.heap.size w w' := by
  have h2 : 2 ≤ s.size := by omega
  have a1 : decide ((s.size : Int) < 3) = false := decide_eq_false (by omega)
  have a2 : decide (s.size < 3) = false := decide_eq_false (by omega)
  have b0 : (3 ≤ (s.size : Int)) = True := eq_true (by omega)
  have b1 : decide (3 ≤ (s.size : Int)) = true := decide_eq_true (by omega)
  have b2 : (2 < s.size) = True := eq_true (by omega)
  have b3 : (2 < (s.size : Int)) = True := eq_true (by omega)
  have hx : ∀ h : 2 < s.size, ((s[2]'h).toNat : Int) = bt s 2 := bt_at s 2
  obtain ⟨r0, r1⟩ := bt_range s 2
  go_enter Try.func62, Try.ntmps62
  go_wp2_with (first
    | (go_at_call 73; (with_reducible refine (rnum_calls _ _ (by assumption)).mono ?_); rintro e w' ⟨rfl, ⟨nd, rfl⟩⟩)
    | (go_at_call 65; (with_reducible refine (rgood_calls _ _).mono ?_); rintro e w' ⟨rfl, ⟨nd, rfl⟩⟩)
    | (go_at_call 66; (with_reducible refine (pumiceref02_Right.calls kk rest e _ HE.out).mono ?_); rintro e w' ⟨rfl, ⟨nd, rfl⟩⟩))
  refine bodyPost_ret (results_list (rs := [.tmp 2, .tmp 3, .tmp 4, .tmp 5]) rfl (by simp) (.tmp (.tmp (.tmp (.tmp .nil))))) rfl ?_
  exact ⟨rfl, by repeat (first | exact Below.refl _ _ | apply pw_below_drewN | apply below_drew1)⟩
set_option maxHeartbeats 8000000 in
set_option maxRecDepth 100000 in
theorem rkind_k3 (s rest pre : ByteArray) (kk : Nat) (e : Int) (w : World) (h3 : 3 ≤ s.size) (hrest : s.extract 3 s.size = rest) (hpre : s.extract 0 3 = pre)
    (f0 : (num2 s == 0) = false) (f1 : (num2 s != 0) = true) (f2 : goodInoB (num2 s) = true) (f3 : (bt s 2 == 1) = false) (f4 : (bt s 2 != 1) = true) (f5 : (bt s 2 == 2) = false) (f6 : (bt s 2 != 2) = true) (f7 : (bt s 2 == 3) = true) (f8 : (bt s 2 != 3) = false) (f9 : ((rest.size : Int) == 2) = false) (f10 : ((rest.size : Int) != 2) = true) (f11 : (rest.size == 2) = false) (f12 : (rest.size != 2) = true) : Calls Try.prog 62 #[.string s] w fun e w' => e = .returned (.tuple #[.int .i64 0, .int .i64 0, .string ⟨#[]⟩, .int .i64 0]) ∧ Below w.heap.size w w' := by
  have h2 : 2 ≤ s.size := by omega
  have a1 : decide ((s.size : Int) < 3) = false := decide_eq_false (by omega)
  have a2 : decide (s.size < 3) = false := decide_eq_false (by omega)
  have b0 : (3 ≤ (s.size : Int)) = True := eq_true (by omega)
  have b1 : decide (3 ≤ (s.size : Int)) = true := decide_eq_true (by omega)
  have b2 : (2 < s.size) = True := eq_true (by omega)
  have b3 : (2 < (s.size : Int)) = True := eq_true (by omega)
  have hx : ∀ h : 2 < s.size, ((s[2]'h).toNat : Int) = bt s 2 := bt_at s 2
  obtain ⟨r0, r1⟩ := bt_range s 2
  go_enter Try.func62, Try.ntmps62
  go_wp2_with (first
    | (go_at_call 73; (with_reducible refine (rnum_calls _ _ (by assumption)).mono ?_); rintro e w' ⟨rfl, ⟨nd, rfl⟩⟩)
    | (go_at_call 65; (with_reducible refine (rgood_calls _ _).mono ?_); rintro e w' ⟨rfl, ⟨nd, rfl⟩⟩)
    | (go_at_call 66; (with_reducible refine (pumiceref02_Right.calls kk rest e _ HE.out).mono ?_); rintro e w' ⟨rfl, ⟨nd, rfl⟩⟩))
  refine bodyPost_ret (results_list (rs := [.tmp 2, .tmp 3, .tmp 4, .tmp 5]) rfl (by simp) (.tmp (.tmp (.tmp (.tmp .nil))))) rfl ?_
  exact ⟨rfl, by repeat (first | exact Below.refl _ _ | apply pw_below_drewN | apply below_drew1)⟩
set_option maxHeartbeats 8000000 in
set_option maxRecDepth 100000 in
theorem rkind_z1 (s rest pre : ByteArray) (kk : Nat) (e : Int) (w : World) (h3 : 3 ≤ s.size) (hrest : s.extract 3 s.size = rest) (hpre : s.extract 0 3 = pre)
    (f0 : (num2 s == 0) = false) (f1 : (num2 s != 0) = true) (f2 : goodInoB (num2 s) = true) (f3 : (bt s 2 == 1) = false) (f4 : (bt s 2 != 1) = true) (f5 : (bt s 2 == 2) = false) (f6 : (bt s 2 != 2) = true) (f7 : (bt s 2 == 3) = false) (f8 : (bt s 2 != 3) = true) : Calls Try.prog 62 #[.string s] w fun e w' => e = .returned (.tuple #[.int .i64 0, .int .i64 0, .string ⟨#[]⟩, .int .i64 0]) ∧ Below w.heap.size w w' := by
  have h2 : 2 ≤ s.size := by omega
  have a1 : decide ((s.size : Int) < 3) = false := decide_eq_false (by omega)
  have a2 : decide (s.size < 3) = false := decide_eq_false (by omega)
  have b0 : (3 ≤ (s.size : Int)) = True := eq_true (by omega)
  have b1 : decide (3 ≤ (s.size : Int)) = true := decide_eq_true (by omega)
  have b2 : (2 < s.size) = True := eq_true (by omega)
  have b3 : (2 < (s.size : Int)) = True := eq_true (by omega)
  have hx : ∀ h : 2 < s.size, ((s[2]'h).toNat : Int) = bt s 2 := bt_at s 2
  obtain ⟨r0, r1⟩ := bt_range s 2
  go_enter Try.func62, Try.ntmps62
  go_wp2_with (first
    | (go_at_call 73; (with_reducible refine (rnum_calls _ _ (by assumption)).mono ?_); rintro e w' ⟨rfl, ⟨nd, rfl⟩⟩)
    | (go_at_call 65; (with_reducible refine (rgood_calls _ _).mono ?_); rintro e w' ⟨rfl, ⟨nd, rfl⟩⟩)
    | (go_at_call 66; (with_reducible refine (pumiceref02_Right.calls kk rest e _ HE.out).mono ?_); rintro e w' ⟨rfl, ⟨nd, rfl⟩⟩))
  refine bodyPost_ret (results_list (rs := [.tmp 2, .tmp 3, .tmp 4, .tmp 5]) rfl (by simp) (.tmp (.tmp (.tmp (.tmp .nil))))) rfl ?_
  exact ⟨rfl, by repeat (first | exact Below.refl _ _ | apply pw_below_drewN | apply below_drew1)⟩
def pumiceref06_Kind.f (s : ByteArray) : Option (Int × Int × ByteArray × Int) :=
  if s.size < 3 then some (0, 0, ⟨#[]⟩, 0) else (pumiceref02_Right.f (s.extract 3 s.size).size.succ.succ (s.extract 3 s.size)).bind fun e => some (kindK ((num2 s == 0) && (bt s 2 == 4)) e (num2 s) (bt s 2) (s.extract 3 s.size))
theorem pumiceref06_Kind.calls (s : ByteArray) (r1 : Int) (r2 : Int) (r3 : ByteArray) (r4 : Int) (w : World) (h : pumiceref06_Kind.f s = some (r1, r2, r3, r4)) :
    Calls Try.prog 62 #[.string s] w fun e w' => e = .returned (.tuple #[.int .i64 r1, .int .i64 r2, .string r3, .int .i64 r4]) ∧ Below w.heap.size w w' := by
  unfold pumiceref06_Kind.f at h
  by_cases h3 : s.size < 3
  · rw [if_pos h3] at h
    simp only [Option.some.injEq, Prod.mk.injEq] at h
    obtain ⟨rfl, rfl, rfl, rfl⟩ := h
    exact rkind_s s w h3
  rw [if_neg h3] at h
  obtain ⟨e, he, h⟩ := Option.bind_eq_some_iff.mp h
  replace h := Option.some.inj h
  obtain ⟨rest, hrest⟩ : ∃ rest, s.extract 3 s.size = rest := ⟨_, rfl⟩
  obtain ⟨pre, hpre⟩ : ∃ pre, s.extract 0 3 = pre := ⟨_, rfl⟩
  rw [hrest] at he
  simp only [hrest, hpre] at h
  have h3' : 3 ≤ s.size := by omega
  have hB : ∀ (a b : Int), a = b → (a == b) = true ∧ (a != b) = false := fun a b h => by subst h; simp
  have hN : ∀ (a b : Int), ¬ a = b → (a == b) = false ∧ (a != b) = true := fun a b h => by simp [h]
  have hBn : ∀ (a b : Nat), a = b → (a == b) = true ∧ (a != b) = false := fun a b h => by subst h; simp
  have hNn : ∀ (a b : Nat), ¬ a = b → (a == b) = false ∧ (a != b) = true := fun a b h => by simp [h]
  by_cases hn : num2 s = 0
  · have hg : goodInoB (num2 s) = false := by rw [hn]; rfl
    by_cases ho : bt s 2 = 4
    · by_cases h2 : rest.size = 2
      · have h2' : (rest.size : Int) = 2 := by omega
        by_cases hg2 : goodInoB (num2 rest) = true
        · simp [kindK, hn, ho, h2, hg2] at h
          obtain ⟨rfl, rfl, rfl, rfl⟩ := h
          exact rkind_o1 s rest pre rest.size.succ.succ 0 w h3' hrest hpre (by omega) (hB _ _ hn).1 (hB _ _ hn).2 (hB _ _ ho).1 (hB _ _ ho).2 (hB _ _ h2').1 (hB _ _ h2').2 (hBn _ _ h2).1 (hBn _ _ h2).2 hg2
        · replace hg2 : goodInoB (num2 rest) = false := Bool.eq_false_iff.mpr hg2
          simp [kindK, hn, ho, h2, hg2, goodInoB_zero] at h
          obtain ⟨rfl, rfl, rfl, rfl⟩ := h
          exact rkind_o2 s rest pre rest.size.succ.succ 0 w h3' hrest hpre (by omega) (hB _ _ hn).1 (hB _ _ hn).2 hg (hB _ _ ho).1 (hB _ _ ho).2 (hB _ _ h2').1 (hB _ _ h2').2 (hBn _ _ h2).1 (hBn _ _ h2).2 hg2
      · have h2' : ¬ (rest.size : Int) = 2 := by omega
        simp [kindK, hn, ho, h2, goodInoB_zero] at h
        obtain ⟨rfl, rfl, rfl, rfl⟩ := h
        exact rkind_o3 s rest pre rest.size.succ.succ 0 w h3' hrest hpre (hB _ _ hn).1 (hB _ _ hn).2 hg (hB _ _ ho).1 (hB _ _ ho).2 (hN _ _ h2').1 (hN _ _ h2').2 (hNn _ _ h2).1 (hNn _ _ h2).2
    · simp [kindK, hn, ho, goodInoB_zero] at h
      obtain ⟨rfl, rfl, rfl, rfl⟩ := h
      exact rkind_o4 s rest pre rest.size.succ.succ 0 w h3' hrest hpre (hB _ _ hn).1 (hB _ _ hn).2 hg (hN _ _ ho).1 (hN _ _ ho).2
  by_cases hg : goodInoB (num2 s) = true
  rotate_left
  · replace hg : goodInoB (num2 s) = false := Bool.eq_false_iff.mpr hg
    simp [kindK, hn, hg] at h
    obtain ⟨rfl, rfl, rfl, rfl⟩ := h
    exact rkind_b1 s rest pre rest.size.succ.succ 0 w h3' hrest hpre (hN _ _ hn).1 (hN _ _ hn).2 hg
  · by_cases hb1 : bt s 2 = 1
    · have hb2 : ¬ bt s 2 = 2 := by omega
      have hb3 : ¬ bt s 2 = 3 := by omega
      by_cases hz : rest.size = 0
      · simp only [kindK, hn, hg, hb1, hz] at h
        simp [hn] at h
        obtain ⟨rfl, rfl, rfl, rfl⟩ := h
        exact rkind_i1 s rest pre rest.size.succ.succ 0 w h3' hrest hpre (hN _ _ hn).1 (hN _ _ hn).2 hg (hB _ _ hb1).1 (hB _ _ hb1).2 (by rw [empty_list]; simp [hz]) (by rw [bne, empty_list]; simp [hz]) (by rw [isEmpty_eq]; simp [hz]) (by rw [isEmpty_eq]; simp [hz])
      · simp only [kindK, hn, hg, hb1, hz] at h
        simp [hn] at h
        obtain ⟨rfl, rfl, rfl, rfl⟩ := h
        exact rkind_i2 s rest pre rest.size.succ.succ 0 w h3' hrest hpre (hN _ _ hn).1 (hN _ _ hn).2 hg (hB _ _ hb1).1 (hB _ _ hb1).2 (hN _ _ hb2).1 (hN _ _ hb2).2 (hN _ _ hb3).1 (hN _ _ hb3).2 (by rw [empty_list]; simp [hz]) (by rw [bne, empty_list]; simp [hz]) (by rw [isEmpty_eq]; simp [hz]) (by rw [isEmpty_eq]; simp [hz])
    by_cases hb2 : bt s 2 = 2
    · have hb3 : ¬ bt s 2 = 3 := by omega
      by_cases h0 : e = 0
      · simp [kindK, hn, hg, hb2, h0] at h
        obtain ⟨rfl, rfl, rfl, rfl⟩ := h
        exact rkind_e1 s rest pre rest.size.succ.succ e w h3' hrest hpre he (hN _ _ hn).1 (hN _ _ hn).2 hg (hN _ _ hb1).1 (hN _ _ hb1).2 (hB _ _ hb2).1 (hB _ _ hb2).2 (hB _ _ h0).1 (hB _ _ h0).2
      · simp [kindK, hn, hg, hb2, h0] at h
        obtain ⟨rfl, rfl, rfl, rfl⟩ := h
        exact rkind_e2 s rest pre rest.size.succ.succ e w h3' hrest hpre he (hN _ _ hn).1 (hN _ _ hn).2 hg (hN _ _ hb1).1 (hN _ _ hb1).2 (hB _ _ hb2).1 (hB _ _ hb2).2 (hN _ _ hb3).1 (hN _ _ hb3).2 (hN _ _ h0).1 (hN _ _ h0).2
    by_cases hb3 : bt s 2 = 3
    · by_cases h2 : rest.size = 2
      · have h2' : (rest.size : Int) = 2 := by omega
        by_cases hk : goodBlockB (num2 rest) = true
        · simp [kindK, hn, hg, hb3, h2, hk] at h
          obtain ⟨rfl, rfl, rfl, rfl⟩ := h
          have hk' : decide (num2 rest < 128) = true := by
            have := num2_range rest
            simp [goodBlockB] at hk
            simp; omega
          exact rkind_k1 s rest pre rest.size.succ.succ 0 w h3' hrest hpre (by omega) (hN _ _ hn).1 (hN _ _ hn).2 hg (hN _ _ hb1).1 (hN _ _ hb1).2 (hN _ _ hb2).1 (hN _ _ hb2).2 (hB _ _ hb3).1 (hB _ _ hb3).2 (hB _ _ h2').1 (hB _ _ h2').2 (hBn _ _ h2).1 (hBn _ _ h2).2 hk'
        · replace hk : goodBlockB (num2 rest) = false := Bool.eq_false_iff.mpr hk
          simp [kindK, hn, hg, hb3, h2, hk] at h
          obtain ⟨rfl, rfl, rfl, rfl⟩ := h
          have hk' : decide (num2 rest < 128) = false := by
            have := num2_range rest
            simp [goodBlockB] at hk
            simp; omega
          exact rkind_k2 s rest pre rest.size.succ.succ 0 w h3' hrest hpre (by omega) (hN _ _ hn).1 (hN _ _ hn).2 hg (hN _ _ hb1).1 (hN _ _ hb1).2 (hN _ _ hb2).1 (hN _ _ hb2).2 (hB _ _ hb3).1 (hB _ _ hb3).2 (hB _ _ h2').1 (hB _ _ h2').2 (hBn _ _ h2).1 (hBn _ _ h2).2 hk'
      · have h2' : ¬ (rest.size : Int) = 2 := by omega
        simp [kindK, hn, hg, hb3, h2] at h
        obtain ⟨rfl, rfl, rfl, rfl⟩ := h
        exact rkind_k3 s rest pre rest.size.succ.succ 0 w h3' hrest hpre (hN _ _ hn).1 (hN _ _ hn).2 hg (hN _ _ hb1).1 (hN _ _ hb1).2 (hN _ _ hb2).1 (hN _ _ hb2).2 (hB _ _ hb3).1 (hB _ _ hb3).2 (hN _ _ h2').1 (hN _ _ h2').2 (hNn _ _ h2).1 (hNn _ _ h2).2
    simp [kindK, hn, hg, hb1, hb2, hb3] at h
    obtain ⟨rfl, rfl, rfl, rfl⟩ := h
    exact rkind_z1 s rest pre rest.size.succ.succ 0 w h3' hrest hpre (hN _ _ hn).1 (hN _ _ hn).2 hg (hN _ _ hb1).1 (hN _ _ hb1).2 (hN _ _ hb2).1 (hN _ _ hb2).2 (hN _ _ hb3).1 (hN _ _ hb3).2
end Go.Proofs.Ytakchpeohmkpkaa.Q

namespace Go.Proofs.Ytakchpeohmkpkaa.Q
open Go.RowKit Go.Proofs.YtakchpeohmkpkaaW.PrintWords
set_option linter.unusedVariables false
set_option linter.unusedSimpArgs false
theorem bt_get (s : ByteArray) (i : Nat) (h : i < s.size) : s.toList[i]? = some (u8_ (bt s (i : Int))) ∧ bt s (i : Int) = ((s[i]'h).toNat : Int) := by
  have hb : bt s (i : Int) = ((s[i]'h).toNat : Int) := (bt_at s (i : Int) h).symm
  refine ⟨?_, hb⟩
  rw [Lib.toList_data, hb]
  have : s.data.toList[i]? = some (s[i]'h) := by
    rw [List.getElem?_eq_getElem (by rw [data_length]; exact h)]
    rfl
  rw [this]
  congr 1
  show _ = UInt8.ofNat (((s[i]'h).toNat : Int)).toNat
  rw [Int.toNat_natCast, UInt8.ofNat_toNat]
theorem size_l (s : ByteArray) : s.size = s.toList.length := by rw [Lib.toList_data]; exact (data_length s).symm
theorem has_loop (s : ByteArray) (hs : s.size ≤ 281474976710656) (c : Nat) (hc : c < 256) : ∀ (d k i : Nat), i + d = s.size → d < k → pumiceref02_Has.l0 k s c i = some (decide (UInt8.ofNat c ∈ s.toList.drop i))
  | 0, k + 1, i, h, _ => by
    rw [pumiceref02_Has.l0, if_neg (by omega), List.drop_eq_nil_of_le (by rw [← size_l]; omega)]
    simp
  | d + 1, k + 1, i, h, hk => by
    have hi : i < s.size := by omega
    obtain ⟨h1, h2⟩ := bt_get s i hi
    have hl : i < s.toList.length := by rw [← size_l]; exact hi
    have hd : s.toList.drop i = (s[i]'hi) :: s.toList.drop (i + 1) := by
      rw [List.drop_eq_getElem_cons hl]
      congr 1
      have := List.getElem?_eq_getElem hl
      rw [h1] at this
      rw [← Option.some.inj this, h2]
      show UInt8.ofNat (((s[i]'hi).toNat : Int)).toNat = _
      rw [Int.toNat_natCast, UInt8.ofNat_toNat]
    rw [pumiceref02_Has.l0, if_pos (by omega), if_pos (by omega)]
    by_cases hq : bt s (i : Int) = (c : Int)
    · rw [if_pos hq, hd]
      have : s[i]'hi = UInt8.ofNat c := by
        rw [h2] at hq
        have h3 : (s[i]'hi).toNat = c := by omega
        rw [← h3, UInt8.ofNat_toNat]
      rw [this]
      simp
    · have hne : s[i]'hi ≠ UInt8.ofNat c := by
        intro he
        apply hq
        rw [h2, he, UInt8.toNat_ofNat']
        omega
      rw [if_neg hq, hd, show wrap64 ((i : Int) + 1) = ((i + 1 : Nat) : Int) from by unfold wrap64; omega, has_loop s hs c hc d k (i + 1) (by omega) (by omega)]
      congr 1
      simp only [List.mem_cons]
      have : ¬ UInt8.ofNat c = s[i]'hi := fun h => hne h.symm
      simp [this]
theorem has_val (s : ByteArray) (hs : s.size ≤ 281474976710656) (c : Nat) (hc : c < 256) (k : Nat) (hk : s.size < k) : pumiceref02_Has.f k s c = some (decide (UInt8.ofNat c ∈ s.toList)) := by
  unfold pumiceref02_Has.f
  have := has_loop s hs c hc s.size k 0 (by omega) hk
  simpa using this
/-- The name rule, plain. -/
def nameE (s : ByteArray) : Int := if s.toList = [] then 2 else if hasBad s.data.toList = true ∨ s.toList = [46] ∨ s.toList = [46, 46] then 22 else if 24 < (s.size : Int) then 36 else 0
theorem bad_mem (s : ByteArray) : hasBad s.data.toList = true ↔ (47 : UInt8) ∈ s.toList ∨ (0 : UInt8) ∈ s.toList := by
  rw [Lib.toList_data]
  unfold hasBad
  rw [List.any_eq_true]
  constructor
  · rintro ⟨x, hx, h⟩
    simp only [Bool.or_eq_true, beq_iff_eq] at h
    rcases h with rfl | rfl
    · exact .inl hx
    · exact .inr hx
  · rintro (h | h)
    · exact ⟨_, h, by simp⟩
    · exact ⟨_, h, by simp⟩
theorem right02_val (s : ByteArray) (hs : s.size ≤ 281474976710656) (k : Nat) (hk : s.size < k) : pumiceref02_Right.f k s = some (nameE s) := by
  unfold pumiceref02_Right.f nameE
  by_cases h0 : s.toList = []
  · rw [if_pos h0, if_pos h0]
  rw [if_neg h0, if_neg h0]
  have h1 := has_val s hs 47 (by decide) k hk
  have h2 := has_val s hs 0 (by decide) k hk
  rw [show ((47 : Nat) : Int) = 47 from rfl] at h1
  rw [show ((0 : Nat) : Int) = 0 from rfl] at h2
  rw [show UInt8.ofNat 47 = (47 : UInt8) from rfl] at h1
  rw [show UInt8.ofNat 0 = (0 : UInt8) from rfl] at h2
  rw [h1, h2]
  simp only [Option.bind_some, decide_eq_true_eq]
  obtain ⟨k, rfl⟩ : ∃ j, k = j + 1 := ⟨k - 1, by omega⟩
  have hj : ∀ b, pumiceref02_Right.j0 (k + 1) s b = some (if b = true then 22 else if 24 < (s.size : Int) then 36 else 0) := by
    intro b
    rw [pumiceref02_Right.j0]
    cases b <;> simp
    split <;> simp_all
  simp only [hj]
  by_cases hb : hasBad s.data.toList = true
  · rw [if_pos (Or.inl hb)]
    rcases (bad_mem s).1 hb with h | h
    · rw [if_pos h]; simp
    · by_cases h' : (47 : UInt8) ∈ s.toList
      · rw [if_pos h']; simp
      · rw [if_neg h', if_pos h]; simp
  · have hn := mt (bad_mem s).2 hb
    rw [if_neg (fun h => hn (Or.inl h)), if_neg (fun h => hn (Or.inr h))]
    by_cases h46 : s.toList = [46]
    · rw [if_pos h46, if_pos (Or.inr (Or.inl h46))]; simp
    · rw [if_neg h46]
      by_cases h47 : s.toList = [46, 46]
      · rw [if_pos (Or.inr (Or.inr h47)), h47]; simp
      · have hh : ¬ (hasBad s.data.toList = true ∨ s.toList = [46] ∨ s.toList = [46, 46]) := fun h => by
          rcases h with h | h | h
          · exact hb h
          · exact h46 h
          · exact h47 h
        rw [if_neg hh, if_neg (by simpa using h47)]
theorem names_val (s : ByteArray) (hs : s.size ≤ 281474976710656) : names_Right.f s = some (nameE s) := by
  unfold names_Right.f nameE
  rw [if_pos hs]
theorem kind_same (s : ByteArray) (hs : s.size ≤ 281474976710656) : pumiceref06_Kind.f s = node_Kind.f s := by
  unfold pumiceref06_Kind.f node_Kind.f
  by_cases h3 : s.size < 3
  · rw [if_pos h3, if_pos h3]
  rw [if_neg h3, if_neg h3]
  have hr : (s.extract 3 s.size).size ≤ 281474976710656 := by rw [ByteArray.size_extract]; omega
  rw [right02_val _ hr _ (by omega), names_val _ hr]
  simp only [Option.bind_some]
  congr 2
  have e : ((num2 s == 0) && (bt s 2 == 4)) = ((num2 s == 0) && ((s.extract 0 3).toList == ([0, 0, 4] : List UInt8))) := by
    by_cases hn : num2 s = 0
    · have r0 := bt_range s 0
      have r1 := bt_range s 1
      have r2 := bt_range s 2
      have hn' := hn
      unfold num2 at hn'
      have hb0 : bt s 0 = 0 := by omega
      have hb1 : bt s 1 = 0 := by omega
      have hx : (s.extract 0 3).toList = [u8_ 0, u8_ 0, u8_ (bt s 2)] := by
        have l0 := (bt_get s 0 (by omega)).1
        have l1 := (bt_get s 1 (by omega)).1
        have l2 := (bt_get s 2 (by omega)).1
        rw [show ((0 : Nat) : Int) = 0 from rfl, hb0] at l0
        rw [show ((1 : Nat) : Int) = 1 from rfl, hb1] at l1
        rw [show ((2 : Nat) : Int) = 2 from rfl] at l2
        have ht : (s.extract 0 3).toList = s.toList.take 3 := by
          rw [Lib.toList_data, Lib.toList_data]
          simp
        rw [ht]
        match hh : s.toList, l0, l1, l2 with
        | a :: b :: c :: t, l0, l1, l2 =>
          simp only [List.getElem?_cons_zero, List.getElem?_cons_succ, Option.some.injEq] at l0 l1 l2
          subst l0 l1 l2
          rfl
      rw [hx]
      by_cases hb2 : bt s 2 = 4
      · rw [hb2, hn]; rfl
      · have : ¬ u8_ (bt s 2) = 4 := fun h => hb2 ((u8_eq (b := 4) (by omega) (by omega)).1 h)
        have q1 : (bt s 2 == 4) = false := beq_eq_false_iff_ne.2 hb2
        have q2 : (([u8_ 0, u8_ 0, u8_ (bt s 2)] : List UInt8) == [0, 0, 4]) = false := beq_eq_false_iff_ne.2 (fun h => this (List.cons.inj (List.cons.inj (List.cons.inj h).2).2).1)
        rw [q1, q2]
    · have q : (num2 s == 0) = false := beq_eq_false_iff_ne.2 hn
      rw [q]
      rfl
  rw [e]
end Go.Proofs.Ytakchpeohmkpkaa.Q

namespace Go.Proofs.Ytakchpeohmkpkaa.Q
open Go.RowKit Go.Proofs.YtakchpeohmkpkaaW.PrintWords Go.Proofs.YtakchpeohmkpkaaW.PrintLast Go.Proofs.YtakchpeohmkpkaaW.PrintMore
attribute [local go_sem] max2_int min2_int max_two min_two max_three min_three max_four min_four   -- for this text's walks alone
set_option linter.unusedVariables false
set_option linter.unusedSimpArgs false

theorem eqA32 (d : Nat) (w : World) (x0 y0 : ByteArray) (x1 y1 : ByteArray) (x2 y2 : Bool) :
    (Op.equalIn (d + 2) 32 (.agg #[.string x0, .string x1, .bool x2]) (.agg #[.string y0, .string y1, .bool y2])).run Try.prog w = .ok (x0.toList == y0.toList && (x1.toList == y1.toList && (x2 == y2))) w := by
  refine eqA_of Try.underlying32 (by kernel_rfl) ?_
  refine eqf_cons (by rfl) (by go_simp; rfl) (by go_simp; rfl) (by go_simp) ?_
  refine eqf_cons (by rfl) (by go_simp; rfl) (by go_simp; rfl) (by go_simp) ?_
  exact eqf_last (by rfl) (by go_simp; rfl) (by go_simp; rfl) (by go_simp)
end Go.Proofs.Ytakchpeohmkpkaa.Q

namespace Go.Proofs.Ytakchpeohmkpkaa.Q
open Go.RowKit Go.Proofs.YtakchpeohmkpkaaW.PrintWords Go.Proofs.YtakchpeohmkpkaaW.PrintLast Go.Proofs.YtakchpeohmkpkaaW.PrintMore
attribute [local go_sem] max2_int min2_int max_two min_two max_three min_three max_four min_four   -- for this text's walks alone
set_option linter.unusedVariables false
set_option linter.unusedSimpArgs false

theorem eqA59 (d : Nat) (w : World) (x0 y0 : ByteArray) (x1 y1 : Int) (x2 y2 : Int) :
    (Op.equalIn (d + 2) 59 (.agg #[.string x0, .int .i64 x1, .int .i64 x2]) (.agg #[.string y0, .int .i64 y1, .int .i64 y2])).run Try.prog w = .ok (x0.toList == y0.toList && (x1 == y1 && (x2 == y2))) w := by
  refine eqA_of Try.underlying59 (by kernel_rfl) ?_
  refine eqf_cons (by rfl) (by go_simp; rfl) (by go_simp; rfl) (by go_simp) ?_
  refine eqf_cons (by rfl) (by go_simp; rfl) (by go_simp; rfl) (by go_simp) ?_
  exact eqf_last (by rfl) (by go_simp; rfl) (by go_simp; rfl) (by go_simp)
end Go.Proofs.Ytakchpeohmkpkaa.Q
