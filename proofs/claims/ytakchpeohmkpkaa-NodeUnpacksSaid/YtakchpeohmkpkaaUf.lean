/- Q9, A6, LNodeUnpacks -/
import Derived.Test.YtakchpeohmkpkaaRows
import Derived.WalkKit
import Derived.ProofKit
import Derived.OpenShut
import Derived.ShutString
import Derived.ChangeOld
import Derived.Below
import Derived.SizedLaws
import Derived.JoinedCond
import Derived.Deep.CondSized
import Derived.Test.YtakchpeohmkpkaaUa
import Derived.Test.YtakchpeohmkpkaaUc
import Derived.Test.YtakchpeohmkpkaaUd
import Derived.Test.YtakchpeohmkpkaaUe
namespace Go.Proofs.Ytakchpeohmkpkaa.Q
open Go.RowKit Go.Proofs.YtakchpeohmkpkaaW.PrintWords Go.Proofs.YtakchpeohmkpkaaW.PrintLast Go.Proofs.YtakchpeohmkpkaaW.PrintMore
attribute [local go_sem] max2_int min2_int max_two min_two max_three min_three max_four min_four   -- for this text's walks alone
set_option linter.unusedVariables false
set_option linter.unusedSimpArgs false

attribute [local go_sem high] eqA32
/-! ### pumicelaw06_NodeUnpacks: function 5 -/
def pumicelaw06_NodeUnpacks.f (l0 : List Int) : Option (Bool) := (some (([] : List Int) : List Int)).bind fun y218 => (if y218.length + l0.length < 140737488355328 then ((node_Unpack.f (y218 ++ l0)).bind fun bt224 => ((pumiceref06_Unpack.f l0).bind fun bt229 => ((some (([] : List Int) : List Int)).bind fun y234 => (if y234.length + l0.length < 140737488355328 then ((node_ParseMark.f (y234 ++ l0)).bind fun bt240 => ((pumiceref06_ParseMark.f l0).bind fun bt243 => (if (bt224.1.toList == bt229.1.toList && (bt224.2.1.toList == bt229.2.1.toList && (bt224.2.2.1 == bt229.2.2.1))) = true then (if (bt224.2.2.2 == bt229.2.2.2) = true then (if bt240.1 = bt243.1 then (if bt240.2.1 = bt243.2.1 then (if (bt240.2.2 == bt243.2.2) = true then ((pumicelaw06_alive.f).bind fun t246 => (some t246)) else (none)) else (none)) else (none)) else (none)) else (none)))) else (none))))) else (none))
set_option maxHeartbeats 8000000 in
set_option maxRecDepth 100000 in
theorem pumicelaw06_NodeUnpacks.calls (A0 : Option Addr) (c0 : Nat) (l0 : List Int) (r : Bool) (w : World) (hr0 : Kd.C (Kd.int .u8) w A0 l0.length l0) (hc0 : l0.length ≤ c0) (h : pumicelaw06_NodeUnpacks.f l0 = some r) :
    Calls Try.prog 5 #[.slice A0 l0.length c0] w fun e w' => e = .returned (.bool r) ∧ Below w.heap.size w w' := by
  have hu32 := Try.underlying32
  have HR0 := Aside0.mk hr0
  have HC0 := Aside0.mk hc0
  clear hr0 hc0
  have HB := Aside0.mk (Below.refl w.heap.size w)
  have H : ((some (([] : List Int) : List Int)).bind fun y218 => (if y218.length + l0.length < 140737488355328 then ((node_Unpack.f (y218 ++ l0)).bind fun bt224 => ((pumiceref06_Unpack.f l0).bind fun bt229 => ((some (([] : List Int) : List Int)).bind fun y234 => (if y234.length + l0.length < 140737488355328 then ((node_ParseMark.f (y234 ++ l0)).bind fun bt240 => ((pumiceref06_ParseMark.f l0).bind fun bt243 => (if (bt224.1.toList == bt229.1.toList && (bt224.2.1.toList == bt229.2.1.toList && (bt224.2.2.1 == bt229.2.2.1))) = true then (if (bt224.2.2.2 == bt229.2.2.2) = true then (if bt240.1 = bt243.1 then (if bt240.2.1 = bt243.2.1 then (if (bt240.2.2 == bt243.2.2) = true then ((pumicelaw06_alive.f).bind fun t246 => (some t246)) else (none)) else (none)) else (none)) else (none)) else (none)))) else (none))))) else (none))) = some r := h
  clear h
  obtain ⟨y218, hy218⟩ : ∃ y_ : List Int, y_ = (([] : List Int)) := ⟨_, rfl⟩
  replace H : (if y218.length + l0.length < 140737488355328 then ((node_Unpack.f (y218 ++ l0)).bind fun bt224 => ((pumiceref06_Unpack.f l0).bind fun bt229 => ((some (([] : List Int) : List Int)).bind fun y234 => (if y234.length + l0.length < 140737488355328 then ((node_ParseMark.f (y234 ++ l0)).bind fun bt240 => ((pumiceref06_ParseMark.f l0).bind fun bt243 => (if (bt224.1.toList == bt229.1.toList && (bt224.2.1.toList == bt229.2.1.toList && (bt224.2.2.1 == bt229.2.2.1))) = true then (if (bt224.2.2.2 == bt229.2.2.2) = true then (if bt240.1 = bt243.1 then (if bt240.2.1 = bt243.2.1 then (if (bt240.2.2 == bt243.2.2) = true then ((pumicelaw06_alive.f).bind fun t246 => (some t246)) else (none)) else (none)) else (none)) else (none)) else (none)))) else (none))))) else (none)) = some r := by first | (rw [hy218]; with_reducible exact H) | (have H2_ := (Option.bind_some _ _).symm.trans H; rw [hy218]; with_reducible exact H2_) | (have H2_ := (Option.bind_some _ _).symm.trans H; with_reducible exact H2_) | with_reducible exact H | (rw [hy218]; exact H) | exact H
  have Ny218 := Aside0.mk hy218
  clear hy218
  by_cases c2 : y218.length + l0.length < 140737488355328
  · rw [if_pos c2] at H
    have LMc2 := Aside0.mk c2
    clear c2
    obtain ⟨y221, hy221⟩ : ∃ y_ : List Int, y_ = (y218 ++ l0) := ⟨_, rfl⟩
    replace H : ((node_Unpack.f y221).bind fun bt224 => ((pumiceref06_Unpack.f l0).bind fun bt229 => ((some (([] : List Int) : List Int)).bind fun y234 => (if y234.length + l0.length < 140737488355328 then ((node_ParseMark.f (y234 ++ l0)).bind fun bt240 => ((pumiceref06_ParseMark.f l0).bind fun bt243 => (if (bt224.1.toList == bt229.1.toList && (bt224.2.1.toList == bt229.2.1.toList && (bt224.2.2.1 == bt229.2.2.1))) = true then (if (bt224.2.2.2 == bt229.2.2.2) = true then (if bt240.1 = bt243.1 then (if bt240.2.1 = bt243.2.1 then (if (bt240.2.2 == bt243.2.2) = true then ((pumicelaw06_alive.f).bind fun t246 => (some t246)) else (none)) else (none)) else (none)) else (none)) else (none)))) else (none))))) = some r := by first | (rw [hy221]; with_reducible exact H) | (have H2_ := (Option.bind_some _ _).symm.trans H; rw [hy221]; with_reducible exact H2_) | (have H2_ := (Option.bind_some _ _).symm.trans H; with_reducible exact H2_) | with_reducible exact H | (rw [hy221]; exact H) | exact H
    have Ny221 := Aside0.mk hy221
    clear hy221
    replace H := Option.bind_eq_some_iff.mp H
    obtain ⟨⟨t224, t225, t226, t227⟩, A30, H⟩ := H
    replace H : ((pumiceref06_Unpack.f l0).bind fun bt229 => ((some (([] : List Int) : List Int)).bind fun y234 => (if y234.length + l0.length < 140737488355328 then ((node_ParseMark.f (y234 ++ l0)).bind fun bt240 => ((pumiceref06_ParseMark.f l0).bind fun bt243 => (if (t224.toList == bt229.1.toList && (t225.toList == bt229.2.1.toList && (t226 == bt229.2.2.1))) = true then (if (t227 == bt229.2.2.2) = true then (if bt240.1 = bt243.1 then (if bt240.2.1 = bt243.2.1 then (if (bt240.2.2 == bt243.2.2) = true then ((pumicelaw06_alive.f).bind fun t246 => (some t246)) else (none)) else (none)) else (none)) else (none)) else (none)))) else (none)))) = some r := H
    have A3 := Aside0.mk A30
    clear A30
    replace H := Option.bind_eq_some_iff.mp H
    obtain ⟨⟨t229, t230, t231, t232⟩, A40, H⟩ := H
    replace H : ((some (([] : List Int) : List Int)).bind fun y234 => (if y234.length + l0.length < 140737488355328 then ((node_ParseMark.f (y234 ++ l0)).bind fun bt240 => ((pumiceref06_ParseMark.f l0).bind fun bt243 => (if (t224.toList == t229.toList && (t225.toList == t230.toList && (t226 == t231))) = true then (if (t227 == t232) = true then (if bt240.1 = bt243.1 then (if bt240.2.1 = bt243.2.1 then (if (bt240.2.2 == bt243.2.2) = true then ((pumicelaw06_alive.f).bind fun t246 => (some t246)) else (none)) else (none)) else (none)) else (none)) else (none)))) else (none))) = some r := H
    have A4 := Aside0.mk A40
    clear A40
    obtain ⟨y234, hy234⟩ : ∃ y_ : List Int, y_ = (([] : List Int)) := ⟨_, rfl⟩
    replace H : (if y234.length + l0.length < 140737488355328 then ((node_ParseMark.f (y234 ++ l0)).bind fun bt240 => ((pumiceref06_ParseMark.f l0).bind fun bt243 => (if (t224.toList == t229.toList && (t225.toList == t230.toList && (t226 == t231))) = true then (if (t227 == t232) = true then (if bt240.1 = bt243.1 then (if bt240.2.1 = bt243.2.1 then (if (bt240.2.2 == bt243.2.2) = true then ((pumicelaw06_alive.f).bind fun t246 => (some t246)) else (none)) else (none)) else (none)) else (none)) else (none)))) else (none)) = some r := by first | (rw [hy234]; with_reducible exact H) | (have H2_ := (Option.bind_some _ _).symm.trans H; rw [hy234]; with_reducible exact H2_) | (have H2_ := (Option.bind_some _ _).symm.trans H; with_reducible exact H2_) | with_reducible exact H | (rw [hy234]; exact H) | exact H
    have Ny234 := Aside0.mk hy234
    clear hy234
    by_cases c5 : y234.length + l0.length < 140737488355328
    · rw [if_pos c5] at H
      have LMc5 := Aside0.mk c5
      clear c5
      obtain ⟨y237, hy237⟩ : ∃ y_ : List Int, y_ = (y234 ++ l0) := ⟨_, rfl⟩
      replace H : ((node_ParseMark.f y237).bind fun bt240 => ((pumiceref06_ParseMark.f l0).bind fun bt243 => (if (t224.toList == t229.toList && (t225.toList == t230.toList && (t226 == t231))) = true then (if (t227 == t232) = true then (if bt240.1 = bt243.1 then (if bt240.2.1 = bt243.2.1 then (if (bt240.2.2 == bt243.2.2) = true then ((pumicelaw06_alive.f).bind fun t246 => (some t246)) else (none)) else (none)) else (none)) else (none)) else (none)))) = some r := by first | (rw [hy237]; with_reducible exact H) | (have H2_ := (Option.bind_some _ _).symm.trans H; rw [hy237]; with_reducible exact H2_) | (have H2_ := (Option.bind_some _ _).symm.trans H; with_reducible exact H2_) | with_reducible exact H | (rw [hy237]; exact H) | exact H
      have Ny237 := Aside0.mk hy237
      clear hy237
      replace H := Option.bind_eq_some_iff.mp H
      obtain ⟨⟨t240, t241, t242⟩, A60, H⟩ := H
      replace H : ((pumiceref06_ParseMark.f l0).bind fun bt243 => (if (t224.toList == t229.toList && (t225.toList == t230.toList && (t226 == t231))) = true then (if (t227 == t232) = true then (if t240 = bt243.1 then (if t241 = bt243.2.1 then (if (t242 == bt243.2.2) = true then ((pumicelaw06_alive.f).bind fun t246 => (some t246)) else (none)) else (none)) else (none)) else (none)) else (none))) = some r := H
      have A6 := Aside0.mk A60
      clear A60
      replace H := Option.bind_eq_some_iff.mp H
      obtain ⟨⟨t243, t244, t245⟩, A70, H⟩ := H
      replace H : (if (t224.toList == t229.toList && (t225.toList == t230.toList && (t226 == t231))) = true then (if (t227 == t232) = true then (if t240 = t243 then (if t241 = t244 then (if (t242 == t245) = true then ((pumicelaw06_alive.f).bind fun t246 => (some t246)) else (none)) else (none)) else (none)) else (none)) else (none)) = some r := H
      have A7 := Aside0.mk A70
      clear A70
      by_cases c8 : (t224.toList == t229.toList && (t225.toList == t230.toList && (t226 == t231))) = true
      · rw [if_pos c8] at H
        have c8b0 : (t224.toList == t229.toList && (t225.toList == t230.toList && (t226 == t231))) = true := c8
        (try (have c8b1 : decide (t224.toList = t229.toList && (t225.toList == t230.toList && (t226 == t231))) = true := by simpa using c8))
        (try (have c8b2 : (t224.toList == t229.toList && (t225.toList == t230.toList && (t226 == t231))) = true := by simpa using c8))
        clear c8
        by_cases c9 : (t227 == t232) = true
        · rw [if_pos c9] at H
          have c9b0 : (t227 == t232) = true := c9
          (try (have c9b1 : decide (t227 = t232) = true := by simpa using c9))
          (try (have c9b2 : (t227 == t232) = true := by simpa using c9))
          clear c9
          by_cases c10 : t240 = t243
          · rw [if_pos c10] at H
            have c10b0 : (t240 == t243) = true := beq_iff_eq.mpr c10
            have c10b1 : (t240 != t243) = false := bne_eq_false_iff_eq.mpr c10
            clear c10
            by_cases c11 : t241 = t244
            · rw [if_pos c11] at H
              have c11b0 : (t241 == t244) = true := beq_iff_eq.mpr c11
              have c11b1 : (t241 != t244) = false := bne_eq_false_iff_eq.mpr c11
              clear c11
              by_cases c12 : (t242 == t245) = true
              · rw [if_pos c12] at H
                have c12b0 : (t242 == t245) = true := c12
                (try (have c12b1 : decide (t242 = t245) = true := by simpa using c12))
                (try (have c12b2 : (t242 == t245) = true := by simpa using c12))
                clear c12
                replace H := Option.bind_eq_some_iff.mp H
                obtain ⟨t246, A130, H⟩ := H
                replace H : (some t246) = some r := H
                have A13 := Aside0.mk A130
                clear A130
                obtain rfl := Option.some.inj H
                go_enter Try.func5, Try.ntmps5
                go_wp2_with (first | ((with_reducible refine gate_dst (N := 14) rfl ?_); refine Kd.R_lit (Kd.int .u8) _ 5 ?hg (N := 14) ?hd (xs := ([] : List Int)) (inner := []) (ok := fun _ => True) (okp := fun _ => True) ?hr ?hp (fun _ hk => hk) trivial (Below.refl _ _) (Nat.le_refl _) (by simp) ?_; (case hd => rfl); (case hg => rfl); (case hr => first | (go_simp; done) | (go_simp; rfl)); (case hp => exact (Reps.none _ _)); intro v219 w14 ho15 hb hg_ hnew_; clear hg_ hnew_; (first | rw [← Ny218.out] at ho15 | (simp only [Int.reduceToNat] at ho15; rw [← Ny218.out] at ho15)); have n0_ := Aside0.mk (Kd.R_lower ho15 (below_size (by repeat (first | (with_reducible first | exact HB.out | apply below_alloc | apply pw_below_drewN | apply below_drew1) | exact HB.out)))); have n1_ := Aside0.mk (below_step (by repeat (first | (with_reducible first | exact HB.out | apply below_alloc | apply pw_below_drewN | apply below_drew1) | exact HB.out)) hb); clear HB; have HO220 := n0_; have HB := n1_; clear n0_ n1_; clear hb ho15) | ((with_reducible refine gate_builtin (b := .append) (xs := #[.tmp 14, .tmp 15]) rfl ?_); at_builtin; refine Kd.R_append_rows (Kd.int .u8) (w0 := w) w.heap.size rfl (.tmp 14) (.tmp 15) 34 5 (.int .u8 0) 1 rfl Try.underlying34 info5 rfl (by decide) (by omega) v219 y218 l0 _ _ _ (fun _ => True) (fun _ => False) rfl rfl ?aO ?aR (fun _ _ h => h) (fun _ h => h.elim) ?aF ?aB ?aS ?aL ?_; (case aR => repeat (first | exact (Kd.C_below HR0.out HB.out) | (with_reducible refine Kd.C_alloc ?_ _) | (with_reducible refine Kd.C_drewN ?_ _) | (with_reducible refine Kd.C_drew ?_))); (case aB => exact (by repeat (first | (with_reducible first | exact HB.out | apply below_alloc | apply pw_below_drewN | apply below_drew1) | exact HB.out))); (case aF => exact (fun _ _ => trivial)); (case aO => exact (by (with_reducible repeat (first | apply Kd.R_alloc | apply Kd.R_drewN | apply Kd.R_drew)); exact HO220.out)); (case aS => exact (below_size (by repeat (first | (with_reducible first | exact HB.out | apply below_alloc | apply pw_below_drewN | apply below_drew1) | exact HB.out)))); (case aL => have := LMc2.out; omega); intro v222 w16 ho hb hg hat; rw [← Ny221.out] at ho; have n0_ := Aside0.mk (hb); have n1_ := Aside0.mk (ho); clear HB; clear HO220; have HB := n0_; have HO223 := n1_; clear n0_ n1_; clear ho hb hg hat; obtain ⟨Ao17, co17, eo17⟩ := Kd.R_slice HO223.out; subst eo17) | ((with_reducible refine gate_callee (f := 26) rfl ?_); refine goesL_ (some 17) rfl rfl Try.func26 (by kernel_rfl) rfl #[.slice Ao17 y221.length co17] rfl (by (try simp only [List.map_toArray, List.map_cons, List.map_nil]); first | done | rfl | (simp only [List.length_drop, List.length_take]; rfl)) ?_; (with_reducible refine (node_Unpack.calls _ _ y221 t224 t225 t226 t227 _ ?side1 ?side2 A3.out).mono ?_); (case side1 => repeat (first | exact (Kd.R_reads' HO223.out).2.2 | (with_reducible refine Kd.C_alloc ?_ _) | (with_reducible refine Kd.C_drewN ?_ _) | (with_reducible refine Kd.C_drew ?_))); (case side2 => exact (Kd.R_reads' HO223.out).2.1); rintro e w18 ⟨rfl, hb⟩; refine ⟨_, rfl, ?_⟩; have n0_ := Aside0.mk (Kd.R_below (by (with_reducible repeat (first | apply Kd.R_alloc | apply Kd.R_drewN | apply Kd.R_drew)); exact HO223.out) hb); have n1_ := Aside0.mk (below_step (by repeat (first | (with_reducible first | exact HB.out | apply below_alloc | apply pw_below_drewN | apply below_drew1) | exact HB.out)) hb); clear HO223; clear HB; have HO223 := n0_; have HB := n1_; clear n0_ n1_; (try clear hb); (try clear hb2); (try clear hk); (try clear hi)) | ((with_reducible refine gate_dst (N := 3) rfl ?_); refine box_event ?hg (N := 3) ?hd (cs := #[.string (⟨#[]⟩ : ByteArray), .string (⟨#[]⟩ : ByteArray), .bool false]) (t := 32) ?hr ?_; (case hd => rfl); (case hg => rfl); (case hr => first | (go_simp; done) | (go_simp; rfl)); intro gb228 hg w19 hbox hb; have n0_ := Aside0.mk (Kd.R_below (by (with_reducible repeat (first | apply Kd.R_alloc | apply Kd.R_drewN | apply Kd.R_drew)); exact HO223.out) hb); have n1_ := Aside0.mk (below_step (by repeat (first | (with_reducible first | exact HB.out | apply below_alloc | apply pw_below_drewN | apply below_drew1) | exact HB.out)) hb); have n2_ := Aside0.mk (hbox); have n3_ := Aside0.mk ((by rw [hg]; exact (below_size (by repeat (first | (with_reducible first | exact HB.out | apply below_alloc | apply pw_below_drewN | apply below_drew1) | exact HB.out))) : w.heap.size ≤ gb228)); have n4_ := Aside0.mk ((by rw [hg]; exact (below_size (by repeat (first | (with_reducible first | exact HB.out | apply below_alloc | apply pw_below_drewN | apply below_drew1) | exact HB.out))) : w.heap.size ≤ gb228)); clear HO223; clear HB; have HO223 := n0_; have HB := n1_; have BK228 := n2_; have GW228 := n3_; have GE228 := n4_; clear n0_ n1_ n2_ n3_ n4_; clear hb hbox hg; have hcz20_0 : w19.cell? ⟨gb228, 0, none⟩ = some (.string (⟨#[]⟩ : ByteArray)) := (blk_cell BK228.out 0).trans rfl; have hcz20_1 : w19.cell? ⟨gb228, 1, none⟩ = some (.string (⟨#[]⟩ : ByteArray)) := (blk_cell BK228.out 1).trans rfl; have hcz20_2 : w19.cell? ⟨gb228, 2, none⟩ = some (.bool false) := (blk_cell BK228.out 2).trans rfl; have hfz20_0 := blk_frozen BK228.out 0; have hfz20_1 := blk_frozen BK228.out 1; have hfz20_2 := blk_frozen BK228.out 2) | ((with_reducible refine gate_callee (f := 27) rfl ?_); refine goesL_ (some 22) rfl rfl Try.func27 (by kernel_rfl) rfl #[.slice A0 l0.length c0] rfl (by (try simp only [List.map_toArray, List.map_cons, List.map_nil]); first | done | rfl | (simp only [List.length_drop, List.length_take]; rfl)) ?_; (with_reducible refine (pumiceref06_Unpack.calls _ _ l0 t229 t230 t231 t232 _ ?side1 ?side2 A4.out).mono ?_); (case side1 => exact Kd.C_below HR0.out (by repeat (first | (with_reducible first | exact HB.out | apply below_alloc | apply pw_below_drewN | apply below_drew1 | refine below_set ?_ GE228.out) | exact HB.out))); (case side2 => exact HC0.out); rintro e w21 ⟨rfl, hb⟩; refine ⟨_, rfl, ?_⟩; have n0_ := Aside0.mk (Kd.R_below (by (with_reducible repeat (first | apply Kd.R_alloc | apply Kd.R_drewN | apply Kd.R_drew)); exact (Kd.R_mono (Kd.R_far (p := ⟨gb228, 2, none⟩) (Kd.R_far (p := ⟨gb228, 1, none⟩) (Kd.R_far (p := ⟨gb228, 0, none⟩) (Kd.R_types HO223.out BK228.out (by decide)) (fun _ hk => hk.2) (.string t224)) (fun _ hk => hk.2) (.string t225)) (fun _ hk => hk.2) (.bool t226)) (fun _ h_ => h_.1))) hb); have n1_ := Aside0.mk (blk_below (g := gb228) (o := .cells #[.string t224, .string t225, .bool t226] 32 (0, 0)) (by (with_reducible repeat (first | refine blk_drewN ?_ _ | refine blk_drew ?_ | refine blk_alloc ?_ _)); refine blk_put (cs := #[.string t224, .string t225, .bool false]) ?_ 2 _ rfl; (with_reducible repeat (first | refine blk_drewN ?_ _ | refine blk_drew ?_ | refine blk_alloc ?_ _)); refine blk_put (cs := #[.string t224, .string (⟨#[]⟩ : ByteArray), .bool false]) ?_ 1 _ rfl; (with_reducible repeat (first | refine blk_drewN ?_ _ | refine blk_drew ?_ | refine blk_alloc ?_ _)); refine blk_put (cs := #[.string (⟨#[]⟩ : ByteArray), .string (⟨#[]⟩ : ByteArray), .bool false]) ?_ 0 _ rfl; (with_reducible repeat (first | refine blk_drewN ?_ _ | refine blk_drew ?_ | refine blk_alloc ?_ _)); exact BK228.out) hb); have n2_ := Aside0.mk (below_step (by repeat (first | (with_reducible first | exact HB.out | apply below_alloc | apply pw_below_drewN | apply below_drew1 | refine below_set ?_ GE228.out) | exact HB.out)) hb); clear HO223; clear BK228; clear HB; have HO223 := n0_; have BK228 := n1_; have HB := n2_; clear n0_ n1_ n2_; (try clear hb); (try clear hb2); (try clear hk); (try clear hi)) | ((with_reducible refine gate_dst (N := 5) rfl ?_); refine box_event ?hg (N := 5) ?hd (cs := #[.string (⟨#[]⟩ : ByteArray), .string (⟨#[]⟩ : ByteArray), .bool false]) (t := 32) ?hr ?_; (case hd => rfl); (case hg => rfl); (case hr => first | (go_simp; done) | (go_simp; rfl)); intro gb233 hg w22 hbox hb; have n0_ := Aside0.mk (Kd.R_below (by (with_reducible repeat (first | apply Kd.R_alloc | apply Kd.R_drewN | apply Kd.R_drew)); exact HO223.out) hb); have n1_ := Aside0.mk (blk_below (g := gb228) (o := .cells #[.string t224, .string t225, .bool t226] 32 (0, 0)) (by (with_reducible repeat (first | refine blk_drewN ?_ _ | refine blk_drew ?_ | refine blk_alloc ?_ _)); exact BK228.out) hb); have n2_ := Aside0.mk (below_step (by repeat (first | (with_reducible first | exact HB.out | apply below_alloc | apply pw_below_drewN | apply below_drew1 | refine below_set ?_ GE228.out) | exact HB.out)) hb); have n3_ := Aside0.mk (hbox); have n4_ := Aside0.mk ((by rw [hg]; exact (below_size (by repeat (first | (with_reducible first | exact HB.out | apply below_alloc | apply pw_below_drewN | apply below_drew1 | refine below_set ?_ GE228.out) | exact HB.out))) : w.heap.size ≤ gb233)); have n5_ := Aside0.mk ((by rw [hg]; exact (below_size (by repeat (first | (with_reducible first | exact HB.out | apply below_alloc | apply pw_below_drewN | apply below_drew1 | refine below_set ?_ GE228.out) | exact HB.out))) : w.heap.size ≤ gb233)); have n6_ := Aside0.mk ((by rw [hg]; exact Nat.ne_of_lt (blk_lt (g := gb228) (o := .cells #[.string t224, .string t225, .bool t226] 32 (0, 0)) (by (with_reducible repeat (first | refine blk_drewN ?_ _ | refine blk_drew ?_ | refine blk_alloc ?_ _)); exact BK228.out)) : gb228 ≠ gb233)); have n7_ := Aside0.mk ((by rw [hg]; exact Nat.ne_of_gt (blk_lt (g := gb228) (o := .cells #[.string t224, .string t225, .bool t226] 32 (0, 0)) (by (with_reducible repeat (first | refine blk_drewN ?_ _ | refine blk_drew ?_ | refine blk_alloc ?_ _)); exact BK228.out)) : gb233 ≠ gb228)); clear HO223; clear BK228; clear HB; have HO223 := n0_; have BK228 := n1_; have HB := n2_; have BK233 := n3_; have GW233 := n4_; have GE233 := n5_; have NB228_233 := n6_; have NB233_228 := n7_; clear n0_ n1_ n2_ n3_ n4_ n5_ n6_ n7_; clear hb hbox hg; have hnb23 := NB233_228.out; have hnc23 := NB228_233.out; have hcz24_0 : w22.cell? ⟨gb233, 0, none⟩ = some (.string (⟨#[]⟩ : ByteArray)) := (blk_cell BK233.out 0).trans rfl; have hcz24_1 : w22.cell? ⟨gb233, 1, none⟩ = some (.string (⟨#[]⟩ : ByteArray)) := (blk_cell BK233.out 1).trans rfl; have hcz24_2 : w22.cell? ⟨gb233, 2, none⟩ = some (.bool false) := (blk_cell BK233.out 2).trans rfl; have hfz24_0 := blk_frozen BK233.out 0; have hfz24_1 := blk_frozen BK233.out 1; have hfz24_2 := blk_frozen BK233.out 2) | ((with_reducible refine gate_dst (N := 26) rfl ?_); refine Kd.R_lit (Kd.int .u8) _ 5 ?hg (N := 26) ?hd (xs := ([] : List Int)) (inner := []) (ok := fun _ => True) (okp := fun _ => True) ?hr ?hp (fun _ hk => hk) trivial (Below.refl _ _) (Nat.le_refl _) (by simp) ?_; (case hd => rfl); (case hg => rfl); (case hr => first | (go_simp; done) | (go_simp; rfl)); (case hp => exact (Reps.none _ _)); intro v235 w25 ho26 hb hg_ hnew_; clear hg_ hnew_; (first | rw [← Ny234.out] at ho26 | (simp only [Int.reduceToNat] at ho26; rw [← Ny234.out] at ho26)); have n0_ := Aside0.mk (Kd.R_elder' (by (with_reducible repeat (first | apply Kd.R_alloc | apply Kd.R_drewN | apply Kd.R_drew)); exact (Kd.R_mono (Kd.R_far (p := ⟨gb233, 2, none⟩) (Kd.R_far (p := ⟨gb233, 1, none⟩) (Kd.R_far (p := ⟨gb233, 0, none⟩) (Kd.R_types HO223.out BK233.out (by decide)) (fun _ hk => hk.2) (.string t229)) (fun _ hk => hk.2) (.string t230)) (fun _ hk => hk.2) (.bool t231)) (fun _ h_ => h_.1))) (Kd.R_base ho26) hb); have n1_ := Aside0.mk (Kd.R_lower (Kd.R_new' ho26 (Kd.R_lt (by (with_reducible repeat (first | apply Kd.R_alloc | apply Kd.R_drewN | apply Kd.R_drew)); exact (Kd.R_mono (Kd.R_far (p := ⟨gb233, 2, none⟩) (Kd.R_far (p := ⟨gb233, 1, none⟩) (Kd.R_far (p := ⟨gb233, 0, none⟩) (Kd.R_types HO223.out BK233.out (by decide)) (fun _ hk => hk.2) (.string t229)) (fun _ hk => hk.2) (.string t230)) (fun _ hk => hk.2) (.bool t231)) (fun _ h_ => h_.1))))) (below_size (by repeat (first | (with_reducible first | exact HB.out | apply below_alloc | apply pw_below_drewN | apply below_drew1 | refine below_set ?_ GE228.out | refine below_set ?_ GE233.out) | exact HB.out)))); have n2_ := Aside0.mk (blk_below (g := gb228) (o := .cells #[.string t224, .string t225, .bool t226] 32 (0, 0)) (by (with_reducible repeat (first | refine blk_drewN ?_ _ | refine blk_drew ?_ | refine blk_alloc ?_ _)); refine blk_far ?_ NB228_233.out _; (with_reducible repeat (first | refine blk_drewN ?_ _ | refine blk_drew ?_ | refine blk_alloc ?_ _)); refine blk_far ?_ NB228_233.out _; (with_reducible repeat (first | refine blk_drewN ?_ _ | refine blk_drew ?_ | refine blk_alloc ?_ _)); refine blk_far ?_ NB228_233.out _; (with_reducible repeat (first | refine blk_drewN ?_ _ | refine blk_drew ?_ | refine blk_alloc ?_ _)); exact BK228.out) hb); have n3_ := Aside0.mk (blk_below (g := gb233) (o := .cells #[.string t229, .string t230, .bool t231] 32 (0, 0)) (by (with_reducible repeat (first | refine blk_drewN ?_ _ | refine blk_drew ?_ | refine blk_alloc ?_ _)); refine blk_put (cs := #[.string t229, .string t230, .bool false]) ?_ 2 _ rfl; (with_reducible repeat (first | refine blk_drewN ?_ _ | refine blk_drew ?_ | refine blk_alloc ?_ _)); refine blk_put (cs := #[.string t229, .string (⟨#[]⟩ : ByteArray), .bool false]) ?_ 1 _ rfl; (with_reducible repeat (first | refine blk_drewN ?_ _ | refine blk_drew ?_ | refine blk_alloc ?_ _)); refine blk_put (cs := #[.string (⟨#[]⟩ : ByteArray), .string (⟨#[]⟩ : ByteArray), .bool false]) ?_ 0 _ rfl; (with_reducible repeat (first | refine blk_drewN ?_ _ | refine blk_drew ?_ | refine blk_alloc ?_ _)); exact BK233.out) hb); have n4_ := Aside0.mk (below_step (by repeat (first | (with_reducible first | exact HB.out | apply below_alloc | apply pw_below_drewN | apply below_drew1 | refine below_set ?_ GE228.out | refine below_set ?_ GE233.out) | exact HB.out)) hb); clear HO223; clear BK228; clear BK233; clear HB; have HO223 := n0_; have HO236 := n1_; have BK228 := n2_; have BK233 := n3_; have HB := n4_; clear n0_ n1_ n2_ n3_ n4_; clear hb ho26) | ((with_reducible refine gate_builtin (b := .append) (xs := #[.tmp 26, .tmp 27]) rfl ?_); at_builtin; refine Kd.R_append_rows (Kd.int .u8) (w0 := w) w.heap.size rfl (.tmp 26) (.tmp 27) 34 5 (.int .u8 0) 1 rfl Try.underlying34 info5 rfl (by decide) (by omega) v235 y234 l0 _ _ _ (fun k_ => some k_ ≠ (.slice Ao17 y221.length co17 : Value).ownBlock) (fun _ => False) rfl rfl ?aO ?aR (fun _ _ h => h) (fun _ h => h.elim) ?aF ?aB ?aS ?aL ?_; (case aR => repeat (first | exact (Kd.C_below HR0.out HB.out) | (with_reducible refine Kd.C_alloc ?_ _) | (with_reducible refine Kd.C_drewN ?_ _) | (with_reducible refine Kd.C_drew ?_))); (case aB => exact (by repeat (first | (with_reducible first | exact HB.out | apply below_alloc | apply pw_below_drewN | apply below_drew1 | refine below_set ?_ GE228.out | refine below_set ?_ GE233.out) | exact HB.out))); (case aF => exact (fun k_ hk => Kd.fresh' (Kd.R_lt (by (with_reducible repeat (first | apply Kd.R_alloc | apply Kd.R_drewN | apply Kd.R_drew)); exact HO223.out)) k_ hk)); (case aO => exact (by (with_reducible repeat (first | apply Kd.R_alloc | apply Kd.R_drewN | apply Kd.R_drew)); exact Kd.R_mono HO236.out (fun _ hk => hk.2))); (case aS => exact (below_size (by repeat (first | (with_reducible first | exact HB.out | apply below_alloc | apply pw_below_drewN | apply below_drew1 | refine below_set ?_ GE228.out | refine below_set ?_ GE233.out) | exact HB.out)))); (case aL => have := LMc5.out; omega); intro v238 w27 ho hb hg hat; rw [← Ny237.out] at ho; have n0_ := Aside0.mk (Kd.R_after (ok := (fun _ => True)) (by (with_reducible repeat (first | apply Kd.R_alloc | apply Kd.R_drewN | apply Kd.R_drew)); exact HO223.out) hg hat); have n1_ := Aside0.mk (blk_grown (g := gb228) (o := .cells #[.string t224, .string t225, .bool t226] 32 (0, 0)) (by (with_reducible repeat (first | refine blk_drewN ?_ _ | refine blk_drew ?_ | refine blk_alloc ?_ _)); exact BK228.out) hg (Kd.R_ne HO236.out BK228.out (by decide))); have n2_ := Aside0.mk (blk_grown (g := gb233) (o := .cells #[.string t229, .string t230, .bool t231] 32 (0, 0)) (by (with_reducible repeat (first | refine blk_drewN ?_ _ | refine blk_drew ?_ | refine blk_alloc ?_ _)); exact BK233.out) hg (Kd.R_ne HO236.out BK233.out (by decide))); have n3_ := Aside0.mk (hb); have n4_ := Aside0.mk (ho); clear HO223; clear BK228; clear BK233; clear HB; clear HO236; have HO223 := n0_; have BK228 := n1_; have BK233 := n2_; have HB := n3_; have HO239 := n4_; clear n0_ n1_ n2_ n3_ n4_; clear ho hb hg hat; obtain ⟨Ao28, co28, eo28⟩ := Kd.R_slice HO239.out; subst eo28) | ((with_reducible refine gate_callee (f := 28) rfl ?_); refine goesL_ (some 29) rfl rfl Try.func28 (by kernel_rfl) rfl #[.slice Ao28 y237.length co28] rfl (by (try simp only [List.map_toArray, List.map_cons, List.map_nil]); first | done | rfl | (simp only [List.length_drop, List.length_take]; rfl)) ?_; (with_reducible refine (node_ParseMark.calls _ _ y237 t240 t241 t242 _ ?side1 ?side2 A6.out).mono ?_); (case side1 => repeat (first | exact (Kd.R_reads' HO239.out).2.2 | (with_reducible refine Kd.C_alloc ?_ _) | (with_reducible refine Kd.C_drewN ?_ _) | (with_reducible refine Kd.C_drew ?_))); (case side2 => exact (Kd.R_reads' HO239.out).2.1); rintro e w29 ⟨rfl, hb⟩; refine ⟨_, rfl, ?_⟩; have n0_ := Aside0.mk (Kd.R_below (by (with_reducible repeat (first | apply Kd.R_alloc | apply Kd.R_drewN | apply Kd.R_drew)); exact HO223.out) hb); have n1_ := Aside0.mk (Kd.R_below (by (with_reducible repeat (first | apply Kd.R_alloc | apply Kd.R_drewN | apply Kd.R_drew)); exact HO239.out) hb); have n2_ := Aside0.mk (blk_below (g := gb228) (o := .cells #[.string t224, .string t225, .bool t226] 32 (0, 0)) (by (with_reducible repeat (first | refine blk_drewN ?_ _ | refine blk_drew ?_ | refine blk_alloc ?_ _)); exact BK228.out) hb); have n3_ := Aside0.mk (blk_below (g := gb233) (o := .cells #[.string t229, .string t230, .bool t231] 32 (0, 0)) (by (with_reducible repeat (first | refine blk_drewN ?_ _ | refine blk_drew ?_ | refine blk_alloc ?_ _)); exact BK233.out) hb); have n4_ := Aside0.mk (below_step (by repeat (first | (with_reducible first | exact HB.out | apply below_alloc | apply pw_below_drewN | apply below_drew1 | refine below_set ?_ GE228.out | refine below_set ?_ GE233.out) | exact HB.out)) hb); clear HO223; clear HO239; clear BK228; clear BK233; clear HB; have HO223 := n0_; have HO239 := n1_; have BK228 := n2_; have BK233 := n3_; have HB := n4_; clear n0_ n1_ n2_ n3_ n4_; (try clear hb); (try clear hb2); (try clear hk); (try clear hi)) | ((with_reducible refine gate_callee (f := 29) rfl ?_); refine goesL_ (some 35) rfl rfl Try.func29 (by kernel_rfl) rfl #[.slice A0 l0.length c0] rfl (by (try simp only [List.map_toArray, List.map_cons, List.map_nil]); first | done | rfl | (simp only [List.length_drop, List.length_take]; rfl)) ?_; (with_reducible refine (pumiceref06_ParseMark.calls _ _ l0 t243 t244 t245 _ ?side1 ?side2 A7.out).mono ?_); (case side1 => repeat (first | exact (Kd.C_below HR0.out HB.out) | (with_reducible refine Kd.C_alloc ?_ _) | (with_reducible refine Kd.C_drewN ?_ _) | (with_reducible refine Kd.C_drew ?_))); (case side2 => exact HC0.out); rintro e w30 ⟨rfl, hb⟩; refine ⟨_, rfl, ?_⟩; have n0_ := Aside0.mk (Kd.R_below (by (with_reducible repeat (first | apply Kd.R_alloc | apply Kd.R_drewN | apply Kd.R_drew)); exact HO223.out) hb); have n1_ := Aside0.mk (Kd.R_below (by (with_reducible repeat (first | apply Kd.R_alloc | apply Kd.R_drewN | apply Kd.R_drew)); exact HO239.out) hb); have n2_ := Aside0.mk (blk_below (g := gb228) (o := .cells #[.string t224, .string t225, .bool t226] 32 (0, 0)) (by (with_reducible repeat (first | refine blk_drewN ?_ _ | refine blk_drew ?_ | refine blk_alloc ?_ _)); exact BK228.out) hb); have n3_ := Aside0.mk (blk_below (g := gb233) (o := .cells #[.string t229, .string t230, .bool t231] 32 (0, 0)) (by (with_reducible repeat (first | refine blk_drewN ?_ _ | refine blk_drew ?_ | refine blk_alloc ?_ _)); exact BK233.out) hb); have n4_ := Aside0.mk (below_step (by repeat (first | (with_reducible first | exact HB.out | apply below_alloc | apply pw_below_drewN | apply below_drew1 | refine below_set ?_ GE228.out | refine below_set ?_ GE233.out) | exact HB.out)) hb); clear HO223; clear HO239; clear BK228; clear BK233; clear HB; have HO223 := n0_; have HO239 := n1_; have BK228 := n2_; have BK233 := n3_; have HB := n4_; clear n0_ n1_ n2_ n3_ n4_; (try clear hb); (try clear hb2); (try clear hk); (try clear hi); have hcz31_0 : w30.cell? ⟨gb228, 0, none⟩ = some (.string t224) := (blk_cell BK228.out 0).trans rfl; have hcz31_1 : w30.cell? ⟨gb228, 1, none⟩ = some (.string t225) := (blk_cell BK228.out 1).trans rfl; have hcz31_2 : w30.cell? ⟨gb228, 2, none⟩ = some (.bool t226) := (blk_cell BK228.out 2).trans rfl; have hfz31_0 := blk_frozen BK228.out 0; have hfz31_1 := blk_frozen BK228.out 1; have hfz31_2 := blk_frozen BK228.out 2; have hcz32_0 : w30.cell? ⟨gb233, 0, none⟩ = some (.string t229) := (blk_cell BK233.out 0).trans rfl; have hcz32_1 : w30.cell? ⟨gb233, 1, none⟩ = some (.string t230) := (blk_cell BK233.out 1).trans rfl; have hcz32_2 : w30.cell? ⟨gb233, 2, none⟩ = some (.bool t231) := (blk_cell BK233.out 2).trans rfl; have hfz32_0 := blk_frozen BK233.out 0; have hfz32_1 := blk_frozen BK233.out 1; have hfz32_2 := blk_frozen BK233.out 2) | (go_at_call 10; (with_reducible refine (pumicelaw06_alive.calls  t246 _ A13.out).mono ?_); rintro e w33 ⟨rfl, hb⟩; have n0_ := Aside0.mk (Kd.R_below (by (with_reducible repeat (first | apply Kd.R_alloc | apply Kd.R_drewN | apply Kd.R_drew)); exact HO223.out) hb); have n1_ := Aside0.mk (Kd.R_below (by (with_reducible repeat (first | apply Kd.R_alloc | apply Kd.R_drewN | apply Kd.R_drew)); exact HO239.out) hb); have n2_ := Aside0.mk (blk_below (g := gb228) (o := .cells #[.string t224, .string t225, .bool t226] 32 (0, 0)) (by (with_reducible repeat (first | refine blk_drewN ?_ _ | refine blk_drew ?_ | refine blk_alloc ?_ _)); exact BK228.out) hb); have n3_ := Aside0.mk (blk_below (g := gb233) (o := .cells #[.string t229, .string t230, .bool t231] 32 (0, 0)) (by (with_reducible repeat (first | refine blk_drewN ?_ _ | refine blk_drew ?_ | refine blk_alloc ?_ _)); exact BK233.out) hb); have n4_ := Aside0.mk (below_step (by repeat (first | (with_reducible first | exact HB.out | apply below_alloc | apply pw_below_drewN | apply below_drew1 | refine below_set ?_ GE228.out | refine below_set ?_ GE233.out) | exact HB.out)) hb); clear HO223; clear HO239; clear BK228; clear BK233; clear HB; have HO223 := n0_; have HO239 := n1_; have BK228 := n2_; have BK233 := n3_; have HB := n4_; clear n0_ n1_ n2_ n3_ n4_; (try clear hb); (try clear hb2); (try clear hk); (try clear hi)))
                go_ret
                exact ⟨by first | rfl | exact isEmpty_bne_ _ | (simp [errW_none, errW_some] <;> rfl) | (simp [*, errW_none, errW_some] <;> rfl), by repeat (first | (with_reducible first | exact HB.out | apply below_alloc | apply pw_below_drewN | apply below_drew1 | refine below_set ?_ GE228.out | refine below_set ?_ GE233.out) | exact HB.out)⟩
              · rw [if_neg c12] at H
                exact absurd H (by simp)
            · rw [if_neg c11] at H
              exact absurd H (by simp)
          · rw [if_neg c10] at H
            exact absurd H (by simp)
        · rw [if_neg c9] at H
          exact absurd H (by simp)
      · rw [if_neg c8] at H
        exact absurd H (by simp)
    · rw [if_neg c5] at H
      exact absurd H (by simp)
  · rw [if_neg c2] at H
    exact absurd H (by simp)

end Go.Proofs.Ytakchpeohmkpkaa.Q

namespace Go.Proofs.Ytakchpeohmkpkaa.Q
open Go.RowKit Go.Proofs.YtakchpeohmkpkaaW.PrintWords
set_option linter.unusedVariables false
set_option linter.unusedSimpArgs false
theorem mark_read (l : List Int) : parseM l = parseMr l := by
  unfold parseM parseMr
  by_cases h : l.length = 10
  · obtain ⟨b0, b1, b2, b3, b4, b5, b6, b7, b8, b9, rfl⟩ := ten_of l h
    have q1 : pos [b0, b1, b2, b3, b4, b5, b6, b7, b8, b9] 0 1 = 1 := rfl
    have q2 : pos [b0, b1, b2, b3, b4, b5, b6, b7, b8, b9] 1 8 = 9 := rfl
    have q3 : pos [b0, b1, b2, b3, b4, b5, b6, b7, b8, b9] 9 1 = 10 := rfl
    have n1 : nxt [b0, b1, b2, b3, b4, b5, b6, b7, b8, b9] 0 1 = [b0] := rfl
    have n2 : nxt [b0, b1, b2, b3, b4, b5, b6, b7, b8, b9] 1 8 = [b1, b2, b3, b4, b5, b6, b7, b8] := rfl
    have n3 : nxt [b0, b1, b2, b3, b4, b5, b6, b7, b8, b9] 9 1 = [b9] := rfl
    rw [q1, q2, q3, n1, n2, n3, leVal_one, leVal_one]
    have d1 : [b0, b1, b2, b3, b4, b5, b6, b7, b8, b9].length = 10 := rfl
    have d2 : [b0, b1, b2, b3, b4, b5, b6, b7, b8, b9].getD 0 0 = b0 := rfl
    have d3 : [b0, b1, b2, b3, b4, b5, b6, b7, b8, b9].getD 9 0 = b9 := rfl
    have d4 : ([b0, b1, b2, b3, b4, b5, b6, b7, b8, b9].drop 1).take 8 = [b1, b2, b3, b4, b5, b6, b7, b8] := rfl
    rw [d1, d2, d3, d4]
    by_cases h0 : b0 = 3 <;> simp [h0]
  · rw [if_neg (c := l.length = 10 ∧ _) (fun hh => h hh.1), if_neg]
    rintro ⟨_, hp, _⟩
    have p1 := pos_two l 0 1
    have p2 := pos_two l (pos l 0 1) 8
    have p3 := pos_two l (pos l (pos l 0 1) 8) 1
    omega
theorem bt_str {l : List Int} (hb : Bytes l) (i : Int) : bt (strOfNums l) i = rd l i := by rw [← rd_bytesOf, bytesOf_str hb]
theorem ba_same {a b : ByteArray} (h : a.toList = b.toList) : a = b := by
  rw [Lib.toList_data, Lib.toList_data] at h
  cases a
  cases b
  congr 1
  exact Array.toList_inj.1 h
theorem str_ext (l : List Int) (a b : Nat) : (strOfNums l).extract a b = strOfNums ((l.take b).drop a) := by
  apply ba_same
  rw [str_list, Lib.toList_data]
  have : ((strOfNums l).extract a b).data.toList = ((strOfNums l).data.toList.take b).drop a := by simp [List.drop_take]
  rw [this, strOfNums_data, List.map_drop, List.map_take]
  rfl
theorem str_inj {a b : List Int} (ha : Bytes a) (hb : Bytes b) : (strOfNums a).toList = (strOfNums b).toList ↔ a = b := by
  constructor
  · intro h
    have := ba_same h
    rw [← bytesOf_str ha, this, bytesOf_str hb]
  · rintro rfl
    rfl
theorem unpack_same (l : List Int) (hb : Bytes l) (hl : l.length ≤ 281474976710656) : ∃ t, node_Unpack.f l = some t ∧ pumiceref06_Unpack.f l = some t := by
  have hbb : byteB l = true := by
    unfold byteB
    rw [List.all_eq_true]
    intro x hx
    have := hb x hx
    simp [this.1, this.2]
  have hsz : (strOfNums l).size = l.length := strOfNums_size l
  have q1 := pos_two l 0 1
  unfold node_Unpack.f pumiceref06_Unpack.f unpackR
  rw [if_pos ⟨hbb, hl⟩, if_pos hl, hsz]
  obtain ⟨rt, hrt⟩ := right_some (strOfNums (nxt l (pos l (pos l 0 1) 1) (leVal (nxt l (pos l 0 1) 1)).toNat)) (strOfNums (nxt l (pos l (pos l (pos l (pos l 0 1) 1) (leVal (nxt l (pos l 0 1) 1)).toNat) 2) (leVal (nxt l (pos l (pos l (pos l 0 1) 1) (leVal (nxt l (pos l 0 1) 1)).toNat) 2)).toNat)) (decide (leVal (nxt l 0 1) = 2))
  by_cases h2 : l.length < 2
  · rw [if_pos h2, hrt]
    refine ⟨_, rfl, ?_⟩
    simp only [unpackN]
    rw [if_neg]
    rintro ⟨_, hp, _⟩
    have p2 := pos_two l (pos l 0 1) 1
    have p3 := pos_two l (pos l (pos l 0 1) 1) (leVal (nxt l (pos l 0 1) 1)).toNat
    have p4 := pos_two l (pos l (pos l (pos l 0 1) 1) (leVal (nxt l (pos l 0 1) 1)).toNat) 2
    have p5 := pos_two l (pos l (pos l (pos l (pos l 0 1) 1) (leVal (nxt l (pos l 0 1) 1)).toNat) 2) (leVal (nxt l (pos l (pos l (pos l 0 1) 1) (leVal (nxt l (pos l 0 1) 1)).toNat) 2)).toNat
    omega
  rw [if_neg h2]
  obtain ⟨k0, n0, t, rfl⟩ : ∃ k0 n0 t, l = k0 :: n0 :: t := by
    match l, h2 with
    | a :: b :: c, _ => exact ⟨a, b, c, rfl⟩
    | [a], h => exact absurd (by simp) h
    | [], h => exact absurd (by simp) h
  have e1 : pos (k0 :: n0 :: t) 0 1 = 1 := by have : (k0 :: n0 :: t).length = t.length + 2 := rfl; omega
  have e2 : pos (k0 :: n0 :: t) 1 1 = 2 := by have := pos_two (k0 :: n0 :: t) 1 1; have : (k0 :: n0 :: t).length = t.length + 2 := rfl; omega
  have m1 : nxt (k0 :: n0 :: t) 0 1 = [k0] := by unfold nxt; rw [if_pos (by simp)]; rfl
  have m2 : nxt (k0 :: n0 :: t) 1 1 = [n0] := by unfold nxt; rw [if_pos (by simp)]; rfl
  have b0 : bt (strOfNums (k0 :: n0 :: t)) 0 = k0 := bt_str hb 0
  have b1 : bt (strOfNums (k0 :: n0 :: t)) 1 = n0 := bt_str hb 1
  have hk0 := hb k0 (by simp)
  have hn0 := hb n0 (by simp)
  simp only [e1, e2, m1, m2, leVal_one] at hrt ⊢
  rw [b0, b1]
  obtain ⟨n, hn⟩ : ∃ n : Nat, n0 = (n : Int) := ⟨n0.toNat, by omega⟩
  subst hn
  rw [Int.toNat_natCast] at hrt ⊢
  have hlen : ((k0 :: (n : Int) :: t)).length = t.length + 2 := rfl
  by_cases hk : k0 ≠ 1 ∧ k0 ≠ 2
  · rw [if_pos hk, hrt]
    refine ⟨_, rfl, ?_⟩
    simp only [unpackN, e1, e2, m1, m2, leVal_one]
    rw [if_neg]
    rintro ⟨h, _, _⟩
    omega
  rw [if_neg hk]
  by_cases h4 : ((k0 :: (n : Int) :: t)).length < 4 + n
  · rw [if_pos h4, hrt]
    refine ⟨_, rfl, ?_⟩
    simp only [unpackN, e1, e2, m1, m2, leVal_one, Int.toNat_natCast]
    rw [if_neg]
    rintro ⟨_, hp, _⟩
    have p3 := pos_two (k0 :: (n : Int) :: t) 2 n
    have p4 := pos_two (k0 :: (n : Int) :: t) (pos (k0 :: (n : Int) :: t) 2 n) 2
    have p5 := pos_two (k0 :: (n : Int) :: t) (pos (k0 :: (n : Int) :: t) (pos (k0 :: (n : Int) :: t) 2 n) 2) (leVal (nxt (k0 :: (n : Int) :: t) (pos (k0 :: (n : Int) :: t) 2 n) 2)).toNat
    omega
  rw [if_neg h4]
  rw [hlen] at h4
  obtain ⟨m0, m1', vv, hd⟩ : ∃ m0 m1' vv, t.drop n = m0 :: m1' :: vv := by
    have : 2 ≤ (t.drop n).length := by rw [List.length_drop]; omega
    match hh : t.drop n, this with
    | a :: b :: c, _ => exact ⟨a, b, c, rfl⟩
  have ht : t = t.take n ++ m0 :: m1' :: vv := by rw [← hd, List.take_append_drop]
  have htl : (t.take n).length = n := by rw [List.length_take]; omega
  have hvl : t.length = n + 2 + vv.length := by rw [ht, List.length_append, htl]; simp only [List.length_cons]; omega
  have hbt : Bytes t := fun x hx => hb x (by simp [hx])
  have hbm : ∀ x, x ∈ m0 :: m1' :: vv → 0 ≤ x ∧ x < 256 := fun x hx => hbt x (by rw [ht]; exact List.mem_append_right _ hx)
  have hm0 := hbm m0 (by simp)
  have hm1 := hbm m1' (by simp)
  have hbv : Bytes vv := fun x hx => hbm x (by simp [hx])
  have hbk : Bytes (t.take n) := fun x hx => hbt x (List.mem_of_mem_take hx)
  obtain ⟨M, hMM⟩ : ∃ M : Nat, m0 + 256 * m1' = (M : Int) := ⟨(m0 + 256 * m1').toNat, by omega⟩
  have x1 : (strOfNums (k0 :: (n : Int) :: t)).extract 2 (2 + n) = strOfNums (t.take n) := by
    rw [str_ext, show 2 + n = n + 2 from by omega]
    rfl
  have x2 : (strOfNums (k0 :: (n : Int) :: t)).extract (4 + n) ((k0 :: (n : Int) :: t).length) = strOfNums vv := by
    rw [str_ext, List.take_length, show 4 + n = (n + 2) + 2 from by omega]
    show strOfNums (t.drop (n + 2)) = _
    rw [← List.drop_drop, hd]
    rfl
  rw [x1, x2]
  have hg : (k0 == 2) = decide (k0 = 2) := by by_cases h : k0 = 2 <;> simp [h]
  rw [hg]
  have hnode : node_Unpack.f (k0 :: (n : Int) :: t) = some (recd k0 n (t.take n) vv M) := by
    have h := node_unpack_val k0 n (t.take n) vv m0 m1' M (by rw [← ht]; exact hb) (by rw [← ht]; exact hl) htl hMM
    rw [← ht] at h
    exact h
  unfold node_Unpack.f at hnode
  rw [if_pos ⟨hbb, hl⟩] at hnode
  simp only [e1, e2, m1, m2, leVal_one, Int.toNat_natCast] at hnode
  refine ⟨recd k0 n (t.take n) vv M, hnode, ?_⟩
  · obtain ⟨b, hbr⟩ := right_some (strOfNums (t.take n)) (strOfNums vv) (decide (k0 = 2))
    unfold pumiceref06_Pack.f
    rw [right_same, hbr]
    simp only [Option.bind_some]
    unfold recd
    rw [hbr]
    cases b with
    | false => simp
    | true =>
      obtain ⟨_, _, hv256⟩ := right_sizes hbr
      rw [strOfNums_size] at hv256
      simp only [if_true, Option.bind_some]
      have hpk : packed (strOfNums (t.take n)) (strOfNums vv) (decide (k0 = 2)) = k0 :: (n : Int) :: (t.take n ++ ((vv.length : Int) % 256 :: ((vv.length : Int) / 256) % 256 :: vv)) := by
        unfold packed
        rw [bytesOf_str hbk, bytesOf_str hbv, strOfNums_size, strOfNums_size, htl]
        have z1 : leBytes (if decide (k0 = 2) = true then 2 else 1) 1 = [k0] := by
          rcases (by omega : k0 = 1 ∨ k0 = 2) with rfl | rfl <;> rfl
        have z2 : leBytes (n : Int) 1 = [(n : Int)] := by
          simp only [leBytes]
          rw [show (n : Int) % 256 = n from by omega]
        rw [z1, z2]
        simp [leBytes]
      have hbp : Bytes (packed (strOfNums (t.take n)) (strOfNums vv) (decide (k0 = 2))) := by
        rw [hpk]
        intro x hx
        simp only [List.mem_cons, List.mem_append] at hx
        rcases hx with rfl | rfl | hx | rfl | rfl | hx
        · exact hk0
        · exact hn0
        · exact hbk x hx
        · omega
        · omega
        · exact hbv x hx
      have hcmp : (strOfNums (packed (strOfNums (t.take n)) (strOfNums vv) (decide (k0 = 2)))).toList = (strOfNums (k0 :: (n : Int) :: t)).toList ↔ M = vv.length := by
        rw [str_inj hbp hb, hpk]
        rw [List.cons_inj_right, List.cons_inj_right]
        conv => lhs; rhs; rw [ht]
        rw [List.append_cancel_left_eq, List.cons.injEq, List.cons.injEq]
        constructor
        · rintro ⟨a, b, _⟩
          omega
        · intro h
          refine ⟨?_, ?_, rfl⟩ <;> omega
      simp only [hcmp, true_and]
      have hkk : k0 = 1 ∨ k0 = 2 := by omega
      by_cases hMv : M = vv.length <;> simp [hMv, hkk]
theorem NodeUnpacks_pure (l : List Int) (hb : Bytes l) (hl : l.length < 140737488355328) : pumicelaw06_NodeUnpacks.f l = some true := by
  obtain ⟨t, h1, h2⟩ := unpack_same l hb (by omega)
  have m1 : node_ParseMark.f l = some (parseM l) := by unfold node_ParseMark.f; rw [if_pos ⟨byteB_of hb, by omega⟩]
  have m2 : pumiceref06_ParseMark.f l = some (parseM l) := by unfold pumiceref06_ParseMark.f; rw [if_pos (byteB_of hb), mark_read]
  unfold pumicelaw06_NodeUnpacks.f
  simp only [Option.bind_some, List.nil_append, List.length_nil, Nat.zero_add]
  rw [if_pos hl, h1, h2]
  simp only [Option.bind_some]
  rw [if_pos hl, m1, m2]
  simp [alive_true]
end Go.Proofs.Ytakchpeohmkpkaa.Q

namespace Go.Proofs.Ytakchpeohmkpkaa.nodeUnpacks
open Go.ChangeShapes Go.WideShapes Go.ChangeAt Go.RowKit Go.Proofs.YtakchpeohmkpkaaW.PrintWords Go.Proofs.Ytakchpeohmkpkaa.Q
open Go.ChangeMaps (open_string shut_string)
set_option linter.unusedVariables false
set_option linter.unusedSimpArgs false
theorem own : ownKnob Try.prog.godebug = none := by kernel_rfl
theorem laidOut : laidOutB Try.prog = true := by kernel_rfl
def dat5 {H : Type} : Int → DataW H := fun x : Int => (.lit (.int .u8 x) : DataW H)
def ok5 (x : Int) : Prop := (Lit.int .u8 x).wf = true
theorem el5 {H : Type} {enc : TypeId × Value → H} {W : World} : ∀ fuel cs (x : DataW H × List MemPlace), DataW.trod enc Try.prog W 0 (fun _ => true) true fuel 5 cs = some x → ∃ a : Int, Kd.K (Kd.int .u8) W a cs ∧ x.1 = dat5 a ∧ ok5 a := by
  intro fuel cs x h
  obtain ⟨a, rfl, hx, hw⟩ := DataW.trod_int Try.underlying5 h
  exact ⟨a, rfl, by rw [hx]; rfl, hw⟩
set_option maxRecDepth 100000 in
set_option maxHeartbeats 1600000 in
theorem contract (H : Type) (enc : TypeId × Value → H) (W : World) (base : Nat) (args : Array Value) (ds gs : List (DataW H)) (before : List MemPlace)
    (hval0 : ∀ (j : Nat) t v, Try.f5.params[j]? = some t → args[j]? = some v → Value.okWide Try.prog W .any base t v)
    (hW : DataW.Whole enc Try.prog Try.f5.params.toList Rows.nodeUnpacksSpec.vars false W args.toList ds gs before) (hsz0 : (DataW.weightsEach Try.prog (Try.f5.params.toList ++ Rows.nodeUnpacksSpec.plain.varTypes Try.prog) (ds ++ gs)).all (· ≤ reachBytes) = true) :
    Calls Try.prog 5 args W fun e W' => ∃ v, e = .returned v ∧ Rows.nodeUnpacksSpec.post enc Try.prog Try.f5 false true false false W args v W' := by
  have hsz : (DataW.weightsEach Try.prog (Try.f5.params.toList ++ Rows.nodeUnpacksSpec.plain.varTypes Try.prog) (ds ++ gs)).all (· ≤ reachBytes) = true := hsz0
  have hval : ∀ (j : Nat) t v, Try.f5.params[j]? = some t → args[j]? = some v → Value.okWide Try.prog W .any base t v := hval0
  have hW' := hW
  obtain ⟨p, q, hA0, hV, rfl, hfz, hnd⟩ := hW
  have hA : DataW.TrodAll enc Try.prog W 0 (fun _ => true) true Try.f5.params.toList args.toList ds p := hA0
  rw [Try.params5] at hA hval hsz
  obtain ⟨v0, vs0, d0, ds0, p0, q0, hargs, rfl, rfl, h0, r0⟩ := trodAll_cons hA
  obtain ⟨rfl, rfl, rfl⟩ := trodAll_nil r0
  obtain rfl : args = #[v0] := by cases args; simp_all
  obtain ⟨rfl, rfl⟩ := trodVars_none hV
  have k0 := h0
  have lt0 : ∀ x ∈ p0, x.block < W.heap.size := by obtain ⟨m, hm⟩ := k0; exact DataW.trod_lt m _ _ _ hm
  obtain ⟨A0, l0, c0, sp0, rfl, hc0, hr0, hd0, o0⟩ := R0.slice_open (Kd.int .u8) dat5 ok5 Try.underlying34 (by kernel_rfl) el5 (hval 0 34 v0 rfl rfl) h0
  have m0 : l0.length * Try.prog.bytesOf 5 ≤ 140737488351232 := by
    rcases hd0 with ⟨hD, hl⟩ | hD
    · rw [hl]; simp
    · have q := hsz
      rw [hD] at q
      have q1 := R0.sized_len q (j := 0) (t := 34) rfl rfl Try.underlying34
      simpa using q1
  clear hA0 hval0 hsz0 hsz
  have hpure := NodeUnpacks_pure l0 (fun x hx => by have h_ := o0 x hx; unfold ok5 at h_; have q1_ : IntKind.u8.min = 0 := rfl; have q2_ : IntKind.u8.max = 255 := rfl; simp [Lit.wf] at h_; omega) (by have q_ : Try.prog.bytesOf 5 = 1 := (by kernel_rfl); rw [q_] at m0; omega)
  refine (Q.pumicelaw06_NodeUnpacks.calls _ _ l0 true W hr0 hc0 hpure).mono fun e W' ⟨he, bel0⟩ => ?_
  have bel : Below W.heap.size W W' := bel0
  subst he
  exact ⟨_, rfl, _, _, _, [], _, [], hW', trodAll_mk1 (shut_bool Try.underlying4 _), (trodAll_cons_mk (Below.trod laidOut (by kernel_rfl) (of_decide_eq_true (by kernel_rfl)) k0 bel lt0) trodAll_mk0), rfl, bel.frame _, fun h => by cases h⟩
set_option maxRecDepth 100000 in
theorem lifted (os : Os) (started : os.Started) (H : Type) (enc : TypeId × Value → H) :
    ReturnsInHanded {} Try.checked os 5 .any (Rows.nodeUnpacksSpec.pre6 enc Try.prog Try.f5 Rows.nodeUnpacksRow.domain false) (Rows.nodeUnpacksSpec.post enc Try.prog Try.f5 false true false false) := by
  refine returnsInHanded_of_change_sized (C := Try.checked) own started (by kernel_rfl) Try.func5
    (ChangeSpec.witness6 (enc := enc) (C := Try.checked) false ⟨#[], #[.slice none 0 0], []⟩ 8 (by kernel_rfl) (by kernel_rfl) (by kernel_rfl) (by kernel_rfl)) ?_
  intro W base args ds gs before hval hW _ hsz _
  exact contract H enc W base args ds gs before hval hW hsz
theorem over : Rows.nodeUnpacksRow.holds Try.pinned (OpenSpec.ofChange Rows.nodeUnpacksSpec) :=
  OpenClaim.holds_of_wide 5 Try.f5 rfl rfl rfl rfl rfl rfl rfl ⟨rfl, rfl, rfl, rfl, rfl⟩ rfl rfl rfl rfl rfl (by kernel_rfl) Try.func5 (by kernel_rfl)
    (of_decide_eq_true (by kernel_rfl)) (by unfold Func.isWrapper; first | (rw [if_pos (by decide +kernel)]; kernel_rfl) | (rw [if_neg (by decide +kernel)]; exact ⟨rfl, rfl⟩))
    (fun os started H enc _ => lifted os started H enc)
end Go.Proofs.Ytakchpeohmkpkaa.nodeUnpacks
namespace Go.Proofs.Ytakchpeohmkpkaa
/-- The row. -/
theorem nodeUnpacks_holds : Rows.NodeUnpacksSaid := nodeUnpacks.over
#print axioms nodeUnpacks_holds
end Go.Proofs.Ytakchpeohmkpkaa
