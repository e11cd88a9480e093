/- F8, Z2, A3, G3, G4, G5, L0, LFaultWrapsUpto -/
import Derived.Test.YtfmmmojlnfndkaaDoorRows
import Derived.LaidLaws
import Derived.LaidHandle
import Derived.ChangeVars
import Derived.Stop.LaidErr
import Derived.Test.YtfmmmojlnfndkaaDoorBulk
import Derived.Test.YtfmmmojlnfndkaaDoorTie
import Derived.Test.YtfmmmojlnfndkaaDoorCards
import Derived.WalkKit
import Derived.ProofKit
import Derived.OpenShut
import Derived.ShutString
import Derived.ChangeOld
import Derived.Below
import Derived.SizedLaws
import Derived.JoinedCond
import Derived.Deep.CondSized
import Derived.JoinedOf
import Derived.Stop.Joined
import Derived.Deep.DeepHandedRow
import Derived.SevenTiedAt
import Derived.Test.YtfmmmojlnfndkaaDoorYa
import Derived.Test.YtfmmmojlnfndkaaDoorYb
import Derived.Test.YtfmmmojlnfndkaaDoorYc
namespace Go.Proofs.YtfmmmojlnfndkaaDoor.As
open Go.RowKit Go.Proofs.YtfmmmojlnfndkaaDoorW.PrintWords Go.Proofs.YtfmmmojlnfndkaaDoorW.PrintLast Go.Extern.Stop Go.Stop Go.Extern
set_option linter.unusedVariables false
set_option linter.unusedSimpArgs false
theorem wrapNilB (op what : ByteArray) (w : World) : Calls Tryd.prog 25 #[.string op, .string what, .nilIface] w fun ev w' => ev = .returned .nilIface ∧ Below w.heap.size w w' := by
  refine (wrapNil op what w).mono ?_
  rintro ev w' ⟨rfl, rfl⟩
  exact ⟨rfl, Below.refl _ _⟩
structure Wr0 (w0 w : World) (A2 : Option Addr) (c2 : Nat) (A3 : Option Addr) (c3 : Nat) : Prop where
  laid : Laid w
  below : Below w0.heap.size w0 w
  z : w.heap[w0.heap.size + 1]? = some (.cells #[.slice A2 0 c2, .slice A3 0 c3, .int .i64 0] 34)
  y : w.heap[w0.heap.size]? = some (.cells #[.slice none 0 0, .slice none 0 0, .int .i64 0] 34)
  r0 : Kd.R Kd.string 9 w w0.heap.size (fun k => k ≠ w0.heap.size + 1 ∧ k ≠ w0.heap.size) (.slice A2 0 c2) []
  r1 : Kd.R Kd.string 9 w w0.heap.size (fun k => k ≠ w0.heap.size + 1 ∧ k ≠ w0.heap.size) (.slice A3 0 c3) []
  start : 0 < w0.heap.size
theorem wr0_start (w : World) (hL : Laid w) : Wr0 w ((w.alloc (.cells #[.slice none 0 0, .slice none 0 0, .int .i64 0] 34)).alloc (.cells #[.slice none 0 0, .slice none 0 0, .int .i64 0] 34)) none 0 none 0 := by
  have h := wr_start w 0 hL
  exact ⟨h.laid, h.below, h.z, h.y, h.r0, h.r1, h.start⟩
theorem wrap_at0 (x h : ByteArray) (A2 A3 : Option Addr) (c2 c3 : Nat) (W : World) (h0 : Kd.C Kd.string W A2 ([] : List ByteArray).length []) (h1 : Kd.C Kd.string W A3 ([] : List ByteArray).length []) :
    Calls Tryd.prog 36 #[.string x, .string h, .agg #[.slice A2 0 c2, .slice A3 0 c3, .int .i64 0]] W fun e' w' => ∃ (A4 : Option Addr) (c4 : Nat) (A5 : Option Addr) (c5 : Nat), e' = .returned (.agg #[.slice A4 0 c4, .slice A5 0 c5, .int .i64 0]) ∧ Kd.R Kd.string 9 w' W.heap.size (fun _ => True) (.slice A4 0 c4) [] ∧ Kd.R Kd.string 9 w' W.heap.size (fun _ => True) (.slice A5 0 c5) [] ∧ Below W.heap.size W w' := by
  refine (Z.pumiceref04_Wrap.calls x h A2 c2 [] A3 c3 [] 0 [] [] 0 W h0 (Nat.zero_le _) h1 (Nat.zero_le _) (by unfold Z.pumiceref04_Wrap.f; rw [if_pos rfl])).mono ?_
  rintro e' w' ⟨v0, v1, rfl, r0, r1, hb⟩
  obtain ⟨A4, c4, rfl⟩ := Kd.R_slice r0
  obtain ⟨A5, c5, rfl⟩ := Kd.R_slice r1
  exact ⟨A4, c4, A5, c5, rfl, Kd.R_mono r0 (fun _ _ => trivial), Kd.R_mono r1 (fun _ _ => trivial), hb⟩
theorem wr0_step {w wr w2 w3 : World} {A2 A3 A4 A5 : Option Addr} {c2 c3 c4 c5 : Nat} (HW : Wr0 w wr A2 c2 A3 c3) (hb2 : Below wr.heap.size wr w2) (hb3 : Below w2.drew.heap.size w2.drew w3)
    (r0 : Kd.R Kd.string 9 w3 w2.drew.heap.size (fun _ => True) (.slice A4 0 c4) []) (r1 : Kd.R Kd.string 9 w3 w2.drew.heap.size (fun _ => True) (.slice A5 0 c5) []) :
    Wr0 w (((w3.setCell ⟨w.heap.size + 1, 0, none⟩ (.slice A4 0 c4)).setCell ⟨w.heap.size + 1, 1, none⟩ (.slice A5 0 c5)).setCell ⟨w.heap.size + 1, 2, none⟩ (.int .i64 0)) A4 c4 A5 c5 := by
  have hzl : w.heap.size + 1 < wr.heap.size := (Array.getElem?_eq_some_iff.1 HW.z).1
  have h2 : wr.heap.size ≤ w2.heap.size := hb2.size
  have hb23 : Below w2.heap.size w2 w3 := below_step (below_drew (Below.refl _ w2)) hb3
  have hz3 := heap_below hb23 (heap_below hb2 HW.z)
  have hy3 := heap_below hb23 (heap_below hb2 HW.y)
  have hk : KeepBut w3 (((w3.setCell ⟨w.heap.size + 1, 0, none⟩ (.slice A4 0 c4)).setCell ⟨w.heap.size + 1, 1, none⟩ (.slice A5 0 c5)).setCell ⟨w.heap.size + 1, 2, none⟩ (.int .i64 0)) (w.heap.size + 1) none :=
    (((KeepBut.refl w3 (w.heap.size + 1) none).set_ 0 _).set_ 1 _).set_ 2 _
  have hz4 := heap_set (i := 2) (.int .i64 0) (heap_set (i := 1) (.slice A5 0 c5) (heap_set (i := 0) (.slice A4 0 c4) hz3))
  have hbw : Below w.heap.size w (((w3.setCell ⟨w.heap.size + 1, 0, none⟩ (.slice A4 0 c4)).setCell ⟨w.heap.size + 1, 1, none⟩ (.slice A5 0 c5)).setCell ⟨w.heap.size + 1, 2, none⟩ (.int .i64 0)) := by
    refine Below.setCell (Below.setCell (Below.setCell (below_step (below_step HW.below hb2) hb23) ?_ _) ?_ _) ?_ _ <;> exact Nat.le_succ _
  refine ⟨?_, hbw, hz4, ?_, ?_, ?_, HW.start⟩
  · exact ((HW.laid.on hb2).on hb23).keep hk (fun _ => by have := HW.start; omega)
  · exact (hk.2 _ (Array.getElem?_eq_some_iff.1 hy3).1 (by omega) (by simp)).trans hy3
  · exact R_next (w2 := w2) r0 (by omega) (by omega) (by omega) (by omega) hk
  · exact R_next (w2 := w2) r1 (by omega) (by omega) (by omega) (by omega) hk
/-- How wrapped ends at OK. -/
def W170 (w : World) (n : Nat) (ev : Ending) (w' : World) : Prop := ∃ (u : Value) (A2 : Option Addr) (c2 : Nat) (A3 : Option Addr) (c3 : Nat), ev = .returned (.tuple #[u, .agg #[.slice A2 0 c2, .slice A3 0 c3, .int .i64 0]]) ∧ ((n = 0 ∧ u = .iface 22 (.int .i64 0)) ∨ (0 < n ∧ u = .nilIface)) ∧ Below w.heap.size w w'
set_option maxHeartbeats 8000000 in
set_option maxRecDepth 100000 in
theorem wrapped0 (A0 : Option Addr) (c0 : Nat) (l0 : List ByteArray) (A1 : Option Addr) (c1 : Nat) (l1 : List ByteArray) (w : World) (hL : Laid w) (hr0 : Kd.C Kd.string w A0 l0.length l0) (hr1 : Kd.C Kd.string w A1 l1.length l1) (hm0 : l0.length ≤ 1048576) :
    Calls Tryd.prog 17 #[.slice A0 l0.length c0, .slice A1 l1.length c1, .int .i64 0] w (W170 w l0.length) := by
  have HR0 := Aside0.mk (texts_at hr0)
  have HR1 := Aside0.mk (texts_at hr1)
  have HL := Aside0.mk hm0
  have HI := Aside0.mk (wr0_start w hL)
  clear hr0 hr1 hL
  go_enter Tryd.func17, Tryd.ntmps17
  go_wp2
  go_loopw [8, 10] (fun u i wr => ∃ (k : Nat) (u' : Value) (A2 : Option Addr) (c2 : Nat) (A3 : Option Addr) (c3 : Nat), k ≤ l0.length ∧ u = u' ∧ i = .int .i64 k ∧ Aside0 (Wr0 w wr A2 c2 A3 c3) ∧ Aside0 ((k = 0 ∧ u' = .iface 22 (.int .i64 0)) ∨ (0 < k ∧ u' = .nilIface))) (fun _ i _ => l0.length - (intOf i).toNat)
  case atStart => exact ⟨0, _, _, _, _, _, by omega, rfl, rfl, HI, ⟨.inl ⟨rfl, rfl⟩⟩⟩
  case round =>
    obtain ⟨k, u, A2, c2, A3, c3, hk, h1, rfl, HW, HU⟩ := hrel
    obtain rfl := h1.symm
    clear h1
    by_cases hlt : k < l0.length
    · have HLT := Aside0.mk hlt
      have hl64 := HL.out
      obtain ⟨x, hx⟩ : ∃ x, l0[k]? = some x := ⟨_, List.getElem?_eq_getElem hlt⟩
      obtain ⟨b1, off1, h1⟩ := HR0.out
      obtain ⟨rfl, c1⟩ := h1 k x hx
      have y1 := cell_below HW.out.below c1
      clear h1 hx c1
      have hk1 : (k : Int) < l0.length := by omega
      rcases HU.out with ⟨hz, rfl⟩ | ⟨hz, rfl⟩ <;> clear hz HU
      · by_cases hlt1 : k < l1.length
        · skip
          obtain ⟨h, hx⟩ : ∃ h, l1[k]? = some h := ⟨_, List.getElem?_eq_getElem hlt1⟩
          obtain ⟨b3, off3, h1⟩ := HR1.out
          obtain ⟨rfl, c1⟩ := h1 k h hx
          have y3 := cell_below HW.out.below c1
          clear h1 hx c1
          have hk3 : (k : Int) < l1.length := by omega
          go_upto_region 10 with (first | ((with_reducible refine gate_callee (f := 25) rfl ?_); refine goesL_ (some 36) rfl rfl Tryd.func25 (by kernel_rfl) rfl #[.string x, .string h, .iface 22 (.int .i64 0)] rfl (by (try simp only [List.map_toArray, List.map_cons, List.map_nil]); first | done | rfl) ?_; (with_reducible refine (wrapOK x h _ HW.out.laid.et).mono ?_); rintro e' w2 ⟨rfl, hb⟩; refine ⟨_, rfl, ?_⟩; obtain ⟨z0, z1, z2, zf, zg, zh⟩ := cells3 (heap_below hb HW.out.z); have y2 := cell_below hb y1; have HB2 := Aside0.mk hb; clear hb))
          have HC0 := Aside0.mk (Kd.R_reads' (Kd.R_below HW.out.r0 (below_step HB2.out (below_drew (Below.refl _ w2))))).2.2
          have HC1 := Aside0.mk (Kd.R_reads' (Kd.R_below HW.out.r1 (below_step HB2.out (below_drew (Below.refl _ w2))))).2.2
          have HZ2 : Aside0 (w2.drew.heap[w.heap.size + 1]? = _) := Aside0.mk (heap_below HB2.out HW.out.z)
          have HCW := Aside0.mk (wrap_at0 x h A2 A3 c2 c3 w2.drew HC0.out HC1.out)
          go_region_law (first | ((refine goes_ (f := 36) Tryd.func36 (by kernel_rfl) rfl #[.string x, .string h, .agg #[.slice A2 0 c2, .slice A3 0 c3, .int .i64 0]] (by rfl) rfl rfl (by (try simp only [List.map_toArray, List.map_cons, List.map_nil]); first | done | rfl) ?_); (with_reducible refine (HCW.out).mono ?_); rintro e' w3 ⟨A4, c4, A5, c5, rfl, r0', r1', hb3⟩; refine ⟨_, rfl, ?_⟩; obtain ⟨z0', z1', z2', zf', zg', zh'⟩ := cells3 (heap_below hb3 HZ2.out); have HB3 := Aside0.mk hb3; have HR0' := Aside0.mk r0'; have HR1' := Aside0.mk r1'; clear hb3 r0' r1'))
          all_goals (try go_wp2)
          all_goals
            go_roundw
            case rel => exact ⟨k + 1, _, _, _, _, _, by have := HLT.out; omega, rfl, by go_num, ⟨wr0_step HW.out HB2.out HB3.out HR0'.out HR1'.out⟩, ⟨.inr ⟨by omega, rfl⟩⟩⟩
            case measure => simp [intOf]; have := HLT.out; omega
        · skip
          have hk3 : ¬ (k : Int) < l1.length := by omega
          go_upto_region 10 with (first | ((with_reducible refine gate_callee (f := 25) rfl ?_); refine goesL_ (some 36) rfl rfl Tryd.func25 (by kernel_rfl) rfl #[.string x, .string ⟨#[]⟩, .iface 22 (.int .i64 0)] rfl (by (try simp only [List.map_toArray, List.map_cons, List.map_nil]); first | done | rfl) ?_; (with_reducible refine (wrapOK x ⟨#[]⟩ _ HW.out.laid.et).mono ?_); rintro e' w2 ⟨rfl, hb⟩; refine ⟨_, rfl, ?_⟩; obtain ⟨z0, z1, z2, zf, zg, zh⟩ := cells3 (heap_below hb HW.out.z); have y2 := cell_below hb y1; have HB2 := Aside0.mk hb; clear hb))
          have HC0 := Aside0.mk (Kd.R_reads' (Kd.R_below HW.out.r0 (below_step HB2.out (below_drew (Below.refl _ w2))))).2.2
          have HC1 := Aside0.mk (Kd.R_reads' (Kd.R_below HW.out.r1 (below_step HB2.out (below_drew (Below.refl _ w2))))).2.2
          have HZ2 : Aside0 (w2.drew.heap[w.heap.size + 1]? = _) := Aside0.mk (heap_below HB2.out HW.out.z)
          have HCW := Aside0.mk (wrap_at0 x ⟨#[]⟩ A2 A3 c2 c3 w2.drew HC0.out HC1.out)
          go_region_law (first | ((refine goes_ (f := 36) Tryd.func36 (by kernel_rfl) rfl #[.string x, .string ⟨#[]⟩, .agg #[.slice A2 0 c2, .slice A3 0 c3, .int .i64 0]] (by rfl) rfl rfl (by (try simp only [List.map_toArray, List.map_cons, List.map_nil]); first | done | rfl) ?_); (with_reducible refine (HCW.out).mono ?_); rintro e' w3 ⟨A4, c4, A5, c5, rfl, r0', r1', hb3⟩; refine ⟨_, rfl, ?_⟩; obtain ⟨z0', z1', z2', zf', zg', zh'⟩ := cells3 (heap_below hb3 HZ2.out); have HB3 := Aside0.mk hb3; have HR0' := Aside0.mk r0'; have HR1' := Aside0.mk r1'; clear hb3 r0' r1'))
          all_goals (try go_wp2)
          all_goals
            go_roundw
            case rel => exact ⟨k + 1, _, _, _, _, _, by have := HLT.out; omega, rfl, by go_num, ⟨wr0_step HW.out HB2.out HB3.out HR0'.out HR1'.out⟩, ⟨.inr ⟨by omega, rfl⟩⟩⟩
            case measure => simp [intOf]; have := HLT.out; omega
      · by_cases hlt1 : k < l1.length
        · skip
          obtain ⟨h, hx⟩ : ∃ h, l1[k]? = some h := ⟨_, List.getElem?_eq_getElem hlt1⟩
          obtain ⟨b3, off3, h1⟩ := HR1.out
          obtain ⟨rfl, c1⟩ := h1 k h hx
          have y3 := cell_below HW.out.below c1
          clear h1 hx c1
          have hk3 : (k : Int) < l1.length := by omega
          go_upto_region 10 with (first | ((with_reducible refine gate_callee (f := 25) rfl ?_); refine goesL_ (some 36) rfl rfl Tryd.func25 (by kernel_rfl) rfl #[.string x, .string h, .nilIface] rfl (by (try simp only [List.map_toArray, List.map_cons, List.map_nil]); first | done | rfl) ?_; (with_reducible refine (wrapNilB x h _).mono ?_); rintro e' w2 ⟨rfl, hb⟩; refine ⟨_, rfl, ?_⟩; obtain ⟨z0, z1, z2, zf, zg, zh⟩ := cells3 (heap_below hb HW.out.z); have y2 := cell_below hb y1; have HB2 := Aside0.mk hb; clear hb))
          have HC0 := Aside0.mk (Kd.R_reads' (Kd.R_below HW.out.r0 (below_step HB2.out (below_drew (Below.refl _ w2))))).2.2
          have HC1 := Aside0.mk (Kd.R_reads' (Kd.R_below HW.out.r1 (below_step HB2.out (below_drew (Below.refl _ w2))))).2.2
          have HZ2 : Aside0 (w2.drew.heap[w.heap.size + 1]? = _) := Aside0.mk (heap_below HB2.out HW.out.z)
          have HCW := Aside0.mk (wrap_at0 x h A2 A3 c2 c3 w2.drew HC0.out HC1.out)
          go_region_law (first | ((refine goes_ (f := 36) Tryd.func36 (by kernel_rfl) rfl #[.string x, .string h, .agg #[.slice A2 0 c2, .slice A3 0 c3, .int .i64 0]] (by rfl) rfl rfl (by (try simp only [List.map_toArray, List.map_cons, List.map_nil]); first | done | rfl) ?_); (with_reducible refine (HCW.out).mono ?_); rintro e' w3 ⟨A4, c4, A5, c5, rfl, r0', r1', hb3⟩; refine ⟨_, rfl, ?_⟩; obtain ⟨z0', z1', z2', zf', zg', zh'⟩ := cells3 (heap_below hb3 HZ2.out); have HB3 := Aside0.mk hb3; have HR0' := Aside0.mk r0'; have HR1' := Aside0.mk r1'; clear hb3 r0' r1'))
          all_goals (try go_wp2)
          all_goals
            go_roundw
            case rel => exact ⟨k + 1, _, _, _, _, _, by have := HLT.out; omega, rfl, by go_num, ⟨wr0_step HW.out HB2.out HB3.out HR0'.out HR1'.out⟩, ⟨.inr ⟨by omega, rfl⟩⟩⟩
            case measure => simp [intOf]; have := HLT.out; omega
        · skip
          have hk3 : ¬ (k : Int) < l1.length := by omega
          go_upto_region 10 with (first | ((with_reducible refine gate_callee (f := 25) rfl ?_); refine goesL_ (some 36) rfl rfl Tryd.func25 (by kernel_rfl) rfl #[.string x, .string ⟨#[]⟩, .nilIface] rfl (by (try simp only [List.map_toArray, List.map_cons, List.map_nil]); first | done | rfl) ?_; (with_reducible refine (wrapNilB x ⟨#[]⟩ _).mono ?_); rintro e' w2 ⟨rfl, hb⟩; refine ⟨_, rfl, ?_⟩; obtain ⟨z0, z1, z2, zf, zg, zh⟩ := cells3 (heap_below hb HW.out.z); have y2 := cell_below hb y1; have HB2 := Aside0.mk hb; clear hb))
          have HC0 := Aside0.mk (Kd.R_reads' (Kd.R_below HW.out.r0 (below_step HB2.out (below_drew (Below.refl _ w2))))).2.2
          have HC1 := Aside0.mk (Kd.R_reads' (Kd.R_below HW.out.r1 (below_step HB2.out (below_drew (Below.refl _ w2))))).2.2
          have HZ2 : Aside0 (w2.drew.heap[w.heap.size + 1]? = _) := Aside0.mk (heap_below HB2.out HW.out.z)
          have HCW := Aside0.mk (wrap_at0 x ⟨#[]⟩ A2 A3 c2 c3 w2.drew HC0.out HC1.out)
          go_region_law (first | ((refine goes_ (f := 36) Tryd.func36 (by kernel_rfl) rfl #[.string x, .string ⟨#[]⟩, .agg #[.slice A2 0 c2, .slice A3 0 c3, .int .i64 0]] (by rfl) rfl rfl (by (try simp only [List.map_toArray, List.map_cons, List.map_nil]); first | done | rfl) ?_); (with_reducible refine (HCW.out).mono ?_); rintro e' w3 ⟨A4, c4, A5, c5, rfl, r0', r1', hb3⟩; refine ⟨_, rfl, ?_⟩; obtain ⟨z0', z1', z2', zf', zg', zh'⟩ := cells3 (heap_below hb3 HZ2.out); have HB3 := Aside0.mk hb3; have HR0' := Aside0.mk r0'; have HR1' := Aside0.mk r1'; clear hb3 r0' r1'))
          all_goals (try go_wp2)
          all_goals
            go_roundw
            case rel => exact ⟨k + 1, _, _, _, _, _, by have := HLT.out; omega, rfl, by go_num, ⟨wr0_step HW.out HB2.out HB3.out HR0'.out HR1'.out⟩, ⟨.inr ⟨by omega, rfl⟩⟩⟩
            case measure => simp [intOf]; have := HLT.out; omega
    · obtain rfl : k = l0.length := by omega
      have HUo := HU
      have HEnd : Aside0 (Below w.heap.size w (((wr.setCell ⟨w.heap.size, 0, none⟩ (.slice A2 0 c2)).setCell ⟨w.heap.size, 1, none⟩ (.slice A3 0 c3)).setCell ⟨w.heap.size, 2, none⟩ (.int .i64 0)).drew) := Aside0.mk (by
        refine below_drew (Below.setCell (Below.setCell (Below.setCell HW.out.below ?_ _) ?_ _) ?_ _) <;> exact Nat.le_refl _)
      obtain ⟨z0, z1, z2, zf, zg, zh⟩ := cells3 HW.out.z
      obtain ⟨x0, x1, x2, xf, xg, xh⟩ := cells3 HW.out.y
      go_upto_region 11 with (fail)
      go_region_law (fail)
      all_goals (try go_wp2)
      have HY := y_after (v0 := .slice A2 0 c2) (v1 := .slice A3 0 c3) (v2 := .int .i64 0) HW.out.y
      refine bodyPost_ret (results_tc rfl _ _ w.heap.size 34 #[.slice A2 0 c2, .slice A3 0 c3, .int .i64 0] (0, 0) _ rfl HY Tryd.underlying34 rfl (by kernel_rfl)) rfl ?_
      exact ⟨_, A2, c2, A3, c3, rfl, HUo.out, HEnd.out⟩
end Go.Proofs.YtfmmmojlnfndkaaDoor.As

namespace Go.Proofs.YtfmmmojlnfndkaaDoor.Z
open Go.RowKit Go.Proofs.YtfmmmojlnfndkaaDoorW.PrintWords Go.Proofs.YtfmmmojlnfndkaaDoorW.PrintLast Go.Proofs.YtfmmmojlnfndkaaDoorW.PrintMore
attribute [local go_sem] max2_int min2_int max_two min_two max_three min_three max_four min_four   -- for this text's walks alone
set_option linter.unusedVariables false
set_option linter.unusedSimpArgs false

/-! ### pumiceref04_Text: function 23 -/
def pumiceref04_Text.l0 : Nat → ByteArray → Int → List ByteArray → List ByteArray → Int → Option (ByteArray)
  | 0, _, _, _, _, _ => none
  | k + 1, x3, x4, x117000, x117001, x117002 => if x4 < (x117000.length : Int) then (if 0 ≤ x4 then (if x3.size + (rdOf ByteArray.empty x117000 x4).size ≤ 9223372036854775807 then (if (x3 ++ (rdOf ByteArray.empty x117000 x4)).size + 1 ≤ 9223372036854775807 then (if x4 < (x117001.length : Int) then (if (rdOf ByteArray.empty x117001 x4).toList = ([] : List UInt8) then (if ((x3 ++ (rdOf ByteArray.empty x117000 x4)) ++ (⟨#[32]⟩ : ByteArray)).size + 2 ≤ 9223372036854775807 then (pumiceref04_Text.l0 k (((x3 ++ (rdOf ByteArray.empty x117000 x4)) ++ (⟨#[32]⟩ : ByteArray)) ++ (⟨#[58, 32]⟩ : ByteArray)) (wrap64 (x4 + 1)) x117000 x117001 x117002) else (none)) else (if ((x3 ++ (rdOf ByteArray.empty x117000 x4)) ++ (⟨#[32]⟩ : ByteArray)).size + (rdOf ByteArray.empty x117001 x4).size ≤ 9223372036854775807 then (if (((x3 ++ (rdOf ByteArray.empty x117000 x4)) ++ (⟨#[32]⟩ : ByteArray)) ++ (rdOf ByteArray.empty x117001 x4)).size + 1 ≤ 9223372036854775807 then (if ((((x3 ++ (rdOf ByteArray.empty x117000 x4)) ++ (⟨#[32]⟩ : ByteArray)) ++ (rdOf ByteArray.empty x117001 x4)) ++ (⟨#[32]⟩ : ByteArray)).size + 2 ≤ 9223372036854775807 then (pumiceref04_Text.l0 k (((((x3 ++ (rdOf ByteArray.empty x117000 x4)) ++ (⟨#[32]⟩ : ByteArray)) ++ (rdOf ByteArray.empty x117001 x4)) ++ (⟨#[32]⟩ : ByteArray)) ++ (⟨#[58, 32]⟩ : ByteArray)) (wrap64 (x4 + 1)) x117000 x117001 x117002) else (none)) else (none)) else (none))) else (none)) else (none)) else (none)) else (none)) else ((errno_Error.f x117002).bind fun t120 => (if x3.size + t120.size ≤ 9223372036854775807 then (some (x3 ++ t120)) else (none)))
def pumiceref04_Text.f (k : Nat) (l0_0 : List ByteArray) (l0_1 : List ByteArray) (a0_2 : Int) : Option (ByteArray) := pumiceref04_Text.l0 k (⟨#[]⟩ : ByteArray) 0 l0_0 l0_1 a0_2
theorem pumiceref04_Text.mono_l : ∀ k, (∀ y0 y1 y2 y3 y4, LeO (pumiceref04_Text.l0 k y0 y1 y2 y3 y4) (pumiceref04_Text.l0 (k + 1) y0 y1 y2 y3 y4))
  | 0 => fun _ _ _ _ _ r h => by simp [pumiceref04_Text.l0] at h
  | k + 1 => by
    have ih0 := pumiceref04_Text.mono_l k
    · intro y0 y1 y2 y3 y4
      unfold pumiceref04_Text.l0
      repeat' first
      | (with_reducible exact ih0 _ _ _ _ _)
      | (with_reducible exact LeO.refl _)
      | (with_reducible exact LeO.none _)
      | (with_reducible refine LeO.ite ?_ ?_)
      | (with_reducible refine LeO.bind ?_ (fun _ => ?_))
      | exact ih0 _ _ _ _ _
      | exact LeO.none _
      | refine LeO.ite ?_ ?_
      | refine LeO.bind ?_ (fun _ => ?_)
theorem pumiceref04_Text.mono : ∀ a0 a1 a2 k, LeO (pumiceref04_Text.f k a0 a1 a2) (pumiceref04_Text.f (k + 1) a0 a1 a2) := by
  intro a0 a1 a2 k
  have ih0 := pumiceref04_Text.mono_l k
  unfold pumiceref04_Text.f
  repeat' first
      | (with_reducible exact ih0 _ _ _ _ _)
      | (with_reducible exact LeO.refl _)
      | (with_reducible exact LeO.none _)
      | (with_reducible refine LeO.ite ?_ ?_)
      | (with_reducible refine LeO.bind ?_ (fun _ => ?_))
      | exact ih0 _ _ _ _ _
      | exact LeO.none _
      | refine LeO.ite ?_ ?_
      | refine LeO.bind ?_ (fun _ => ?_)
set_option maxHeartbeats 8000000 in
set_option maxRecDepth 100000 in
theorem pumiceref04_Text.calls (k : Nat) (A0_0 : Option Addr) (c0_0 : Nat) (l0_0 : List ByteArray) (A0_1 : Option Addr) (c0_1 : Nat) (l0_1 : List ByteArray) (a0_2 : Int) (r : ByteArray) (w : World) (hr0_0 : Kd.C Kd.string w A0_0 l0_0.length l0_0) (hc0_0 : l0_0.length ≤ c0_0) (hr0_1 : Kd.C Kd.string w A0_1 l0_1.length l0_1) (hc0_1 : l0_1.length ≤ c0_1) (h : pumiceref04_Text.f k l0_0 l0_1 a0_2 = some r) :
    Calls Tryd.prog 23 #[.agg #[.slice A0_0 l0_0.length c0_0, .slice A0_1 l0_1.length c0_1, .int .i64 a0_2]] w fun e w' => e = .returned (.string r) ∧ Below w.heap.size w w' := by
  have hu34 := Tryd.underlying34
  have HR0_0 := Aside0.mk hr0_0
  have HC0_0 := Aside0.mk hc0_0
  clear hr0_0 hc0_0
  have HR0_1 := Aside0.mk hr0_1
  have HC0_1 := Aside0.mk hc0_1
  clear hr0_1 hc0_1
  have HB := Aside0.mk (Below.refl w.heap.size w)
  have H : (pumiceref04_Text.l0 k (⟨#[]⟩ : ByteArray) 0 l0_0 l0_1 a0_2) = some r := h
  clear h
  have H' := Aside0.mk H
  clear H
  go_enter Tryd.func23, Tryd.ntmps23
  go_wp2_with (first | ((with_reducible refine gate_dst (N := 1) rfl ?_); refine box_event ?hg (N := 1) ?hd (cs := #[.slice A0_0 l0_0.length c0_0, .slice A0_1 l0_1.length c0_1, .int .i64 a0_2]) (t := 34) ?hr ?_; (case hd => rfl); (case hg => rfl); (case hr => first | (go_simp; done) | (go_simp; rfl)); intro gb116 hg w2 hbox hb; have n0_ := Aside0.mk (below_step (by repeat (first | (with_reducible first | exact HB.out | apply below_alloc | apply pw_below_drewN | apply below_drew1) | exact HB.out)) hb); have n1_ := Aside0.mk (hbox); have n2_ := Aside0.mk ((by rw [hg]; exact (below_size (by repeat (first | (with_reducible first | exact HB.out | apply below_alloc | apply pw_below_drewN | apply below_drew1) | exact HB.out))) : w.heap.size ≤ gb116)); have n3_ := Aside0.mk ((by rw [hg]; exact (below_size (by repeat (first | (with_reducible first | exact HB.out | apply below_alloc | apply pw_below_drewN | apply below_drew1) | exact HB.out))) : w.heap.size ≤ gb116)); clear HB; have HB := n0_; have BK116 := n1_; have GW116 := n2_; have GE116 := n3_; clear n0_ n1_ n2_ n3_; clear hb hbox hg))
  go_loopg [3, 4] k (fun kq v3 v4 w' => ∃ (x3_1 : ByteArray) (x4_1 : Int), v3 = .string x3_1 ∧ v4 = .int .i64 x4_1 ∧ Aside0 (pumiceref04_Text.l0 kq x3_1 x4_1 l0_0 l0_1 a0_2 = some r) ∧ Aside0 (kq ≤ k) ∧ Aside0 (w'.heap[gb116]? = some (.cells #[(.slice A0_0 l0_0.length c0_0), (.slice A0_1 l0_1.length c0_1), .int .i64 a0_2] 34 (0, 0))) ∧ Aside0 (Below w.heap.size w w'))
  case atStart => exact ⟨((⟨#[]⟩ : ByteArray)), (0), (by first | rfl | (simp; done) | (simp [*]; done) | (simp [wrap64]; done)), (by first | rfl | (simp; done) | (simp [*]; done) | (simp [wrap64]; done)), H', ⟨Nat.le_refl _⟩, ⟨by (with_reducible repeat (first | refine blk_drewN ?_ _ | refine blk_drew ?_ | refine blk_alloc ?_ _)); exact BK116.out⟩, ⟨by repeat (first | (with_reducible first | exact HB.out | apply below_alloc | apply pw_below_drewN | apply below_drew1 | refine below_set ?_ GE116.out) | exact HB.out)⟩⟩
  case round =>
    clear H'
    try clear c2
    try clear p2
    obtain ⟨x3_1, x4_1, rfl, rfl, HA, HK1, BK116, HB⟩ := hrel
    cases gk with
    | zero => exact absurd HA.out (by simp [pumiceref04_Text.l0])
    | succ k1 =>
      have H := HA.out
      clear HA
      simp only [pumiceref04_Text.l0] at H
      by_cases c3 : x4_1 < (l0_0.length : Int)
      · rw [if_pos c3] at H
        have c3b0 : decide (x4_1 < (l0_0.length : Int)) = true := decide_eq_true c3
        clear c3
        by_cases c4 : 0 ≤ x4_1
        · rw [if_pos c4] at H
          have c4b0 : decide (0 ≤ x4_1) = true := decide_eq_true c4
          clear c4
          by_cases c5 : x3_1.size + (rdOf ByteArray.empty l0_0 x4_1).size ≤ 9223372036854775807
          · rw [if_pos c5] at H
            have c5b0 := eq_true c5
            have c5b1 : decide (x3_1.size + (rdOf ByteArray.empty l0_0 x4_1).size ≤ 9223372036854775807) = true := decide_eq_true c5
            try have c5b2 : (9223372036854775807 < x3_1.size + (rdOf ByteArray.empty l0_0 x4_1).size) = False := eq_false (Nat.not_lt.2 c5)
            try (have c5s := c5; simp [] at c5s)
            by_cases c6 : (x3_1 ++ (rdOf ByteArray.empty l0_0 x4_1)).size + 1 ≤ 9223372036854775807
            · rw [if_pos c6] at H
              have c6b0 := eq_true c6
              have c6b1 : decide ((x3_1 ++ (rdOf ByteArray.empty l0_0 x4_1)).size + 1 ≤ 9223372036854775807) = true := decide_eq_true c6
              try have c6b2 : (9223372036854775807 < (x3_1 ++ (rdOf ByteArray.empty l0_0 x4_1)).size + 1) = False := eq_false (Nat.not_lt.2 c6)
              try (have c6s := c6; simp [] at c6s)
              by_cases c7 : x4_1 < (l0_1.length : Int)
              · rw [if_pos c7] at H
                have c7b0 : decide (x4_1 < (l0_1.length : Int)) = true := decide_eq_true c7
                clear c7
                by_cases c8 : (rdOf ByteArray.empty l0_1 x4_1).toList = ([] : List UInt8)
                · rw [if_pos c8] at H
                  have c8b0 : ((rdOf ByteArray.empty l0_1 x4_1).toList == ([] : List UInt8)) = true := beq_iff_eq.mpr c8
                  have c8b1 : ((rdOf ByteArray.empty l0_1 x4_1).toList != ([] : List UInt8)) = false := bne_eq_false_iff_eq.mpr c8
                  clear c8
                  by_cases c9 : ((x3_1 ++ (rdOf ByteArray.empty l0_0 x4_1)) ++ (⟨#[32]⟩ : ByteArray)).size + 2 ≤ 9223372036854775807
                  · rw [if_pos c9] at H
                    have c9b0 := eq_true c9
                    have c9b1 : decide (((x3_1 ++ (rdOf ByteArray.empty l0_0 x4_1)) ++ (⟨#[32]⟩ : ByteArray)).size + 2 ≤ 9223372036854775807) = true := decide_eq_true c9
                    try have c9b2 : (9223372036854775807 < ((x3_1 ++ (rdOf ByteArray.empty l0_0 x4_1)) ++ (⟨#[32]⟩ : ByteArray)).size + 2) = False := eq_false (Nat.not_lt.2 c9)
                    try (have c9s := c9; simp [show (⟨#[32]⟩ : ByteArray).size = 1 from rfl] at c9s)
                    have H' := Aside0.mk H
                    clear H
                    have hcz10_0 : wr.cell? ⟨gb116, 0, none⟩ = some (.slice A0_0 l0_0.length c0_0) := (blk_cell BK116.out 0).trans rfl
                    have hcz10_1 : wr.cell? ⟨gb116, 1, none⟩ = some (.slice A0_1 l0_1.length c0_1) := (blk_cell BK116.out 1).trans rfl
                    have hcz10_2 : wr.cell? ⟨gb116, 2, none⟩ = some (.int .i64 a0_2) := (blk_cell BK116.out 2).trans rfl
                    have hfz10_0 := blk_frozen BK116.out 0
                    have hfz10_1 := blk_frozen BK116.out 1
                    have hfz10_2 := blk_frozen BK116.out 2
                    have p117 : 0 ≤ (x4_1 : Int) := of_decide_eq_true (by first | (with_reducible assumption) | assumption)
                    have q117 : x4_1 < (l0_0.length : Int) := of_decide_eq_true (by first | (with_reducible assumption) | assumption)
                    obtain ⟨ad117, e117, hx117_0⟩ := Kd.at_string HR0_0.out x4_1 p117 q117
                    cases e117
                    replace hx117_0 := (HB.out.cell (World.block_lt_of_cell? w _ hx117_0)).trans hx117_0
                    replace p117 := eq_true p117
                    replace q117 := eq_true q117
                    have p118 : 0 ≤ (x4_1 : Int) := of_decide_eq_true (by first | (with_reducible assumption) | assumption)
                    have q118 : x4_1 < (l0_1.length : Int) := of_decide_eq_true (by first | (with_reducible assumption) | assumption)
                    obtain ⟨ad118, e118, hx118_0⟩ := Kd.at_string HR0_1.out x4_1 p118 q118
                    cases e118
                    replace hx118_0 := (HB.out.cell (World.block_lt_of_cell? w _ hx118_0)).trans hx118_0
                    replace p118 := eq_true p118
                    replace q118 := eq_true q118
                    go_wp2
                    go_roundg k1
                    case measure => have := HK1.out; omega
                    case rel => exact ⟨(((x3_1 ++ (rdOf ByteArray.empty l0_0 x4_1)) ++ (⟨#[32]⟩ : ByteArray)) ++ (⟨#[58, 32]⟩ : ByteArray)), (wrap64 (x4_1 + 1)), (by first | rfl | (simp; done) | (simp [*]; done) | (simp [wrap64]; done)), (by first | rfl | (simp; done) | (simp [*]; done) | (simp [wrap64]; done)), H', ⟨by have := HK1.out; omega⟩, ⟨by (with_reducible repeat (first | refine blk_drewN ?_ _ | refine blk_drew ?_ | refine blk_alloc ?_ _)); exact BK116.out⟩, ⟨by repeat (first | (with_reducible first | exact HB.out | apply below_alloc | apply pw_below_drewN | apply below_drew1 | refine below_set ?_ GE116.out) | exact HB.out)⟩⟩
                  · rw [if_neg c9] at H
                    exact absurd H (by simp)
                · rw [if_neg c8] at H
                  have c8b0 : ((rdOf ByteArray.empty l0_1 x4_1).toList == ([] : List UInt8)) = false := beq_eq_false_iff_ne.mpr c8
                  have c8b1 : ((rdOf ByteArray.empty l0_1 x4_1).toList != ([] : List UInt8)) = true := bne_iff_ne.mpr c8
                  by_cases c11 : ((x3_1 ++ (rdOf ByteArray.empty l0_0 x4_1)) ++ (⟨#[32]⟩ : ByteArray)).size + (rdOf ByteArray.empty l0_1 x4_1).size ≤ 9223372036854775807
                  · rw [if_pos c11] at H
                    have c11b0 := eq_true c11
                    have c11b1 : decide (((x3_1 ++ (rdOf ByteArray.empty l0_0 x4_1)) ++ (⟨#[32]⟩ : ByteArray)).size + (rdOf ByteArray.empty l0_1 x4_1).size ≤ 9223372036854775807) = true := decide_eq_true c11
                    try have c11b2 : (9223372036854775807 < ((x3_1 ++ (rdOf ByteArray.empty l0_0 x4_1)) ++ (⟨#[32]⟩ : ByteArray)).size + (rdOf ByteArray.empty l0_1 x4_1).size) = False := eq_false (Nat.not_lt.2 c11)
                    try (have c11s := c11; simp [show (⟨#[32]⟩ : ByteArray).size = 1 from rfl] at c11s)
                    by_cases c12 : (((x3_1 ++ (rdOf ByteArray.empty l0_0 x4_1)) ++ (⟨#[32]⟩ : ByteArray)) ++ (rdOf ByteArray.empty l0_1 x4_1)).size + 1 ≤ 9223372036854775807
                    · rw [if_pos c12] at H
                      have c12b0 := eq_true c12
                      have c12b1 : decide ((((x3_1 ++ (rdOf ByteArray.empty l0_0 x4_1)) ++ (⟨#[32]⟩ : ByteArray)) ++ (rdOf ByteArray.empty l0_1 x4_1)).size + 1 ≤ 9223372036854775807) = true := decide_eq_true c12
                      try have c12b2 : (9223372036854775807 < (((x3_1 ++ (rdOf ByteArray.empty l0_0 x4_1)) ++ (⟨#[32]⟩ : ByteArray)) ++ (rdOf ByteArray.empty l0_1 x4_1)).size + 1) = False := eq_false (Nat.not_lt.2 c12)
                      try (have c12s := c12; simp [show (⟨#[32]⟩ : ByteArray).size = 1 from rfl] at c12s)
                      by_cases c13 : ((((x3_1 ++ (rdOf ByteArray.empty l0_0 x4_1)) ++ (⟨#[32]⟩ : ByteArray)) ++ (rdOf ByteArray.empty l0_1 x4_1)) ++ (⟨#[32]⟩ : ByteArray)).size + 2 ≤ 9223372036854775807
                      · rw [if_pos c13] at H
                        have c13b0 := eq_true c13
                        have c13b1 : decide (((((x3_1 ++ (rdOf ByteArray.empty l0_0 x4_1)) ++ (⟨#[32]⟩ : ByteArray)) ++ (rdOf ByteArray.empty l0_1 x4_1)) ++ (⟨#[32]⟩ : ByteArray)).size + 2 ≤ 9223372036854775807) = true := decide_eq_true c13
                        try have c13b2 : (9223372036854775807 < ((((x3_1 ++ (rdOf ByteArray.empty l0_0 x4_1)) ++ (⟨#[32]⟩ : ByteArray)) ++ (rdOf ByteArray.empty l0_1 x4_1)) ++ (⟨#[32]⟩ : ByteArray)).size + 2) = False := eq_false (Nat.not_lt.2 c13)
                        try (have c13s := c13; simp [show (⟨#[32]⟩ : ByteArray).size = 1 from rfl] at c13s)
                        have H' := Aside0.mk H
                        clear H
                        have hcz14_0 : wr.cell? ⟨gb116, 0, none⟩ = some (.slice A0_0 l0_0.length c0_0) := (blk_cell BK116.out 0).trans rfl
                        have hcz14_1 : wr.cell? ⟨gb116, 1, none⟩ = some (.slice A0_1 l0_1.length c0_1) := (blk_cell BK116.out 1).trans rfl
                        have hcz14_2 : wr.cell? ⟨gb116, 2, none⟩ = some (.int .i64 a0_2) := (blk_cell BK116.out 2).trans rfl
                        have hfz14_0 := blk_frozen BK116.out 0
                        have hfz14_1 := blk_frozen BK116.out 1
                        have hfz14_2 := blk_frozen BK116.out 2
                        have p117 : 0 ≤ (x4_1 : Int) := of_decide_eq_true (by first | (with_reducible assumption) | assumption)
                        have q117 : x4_1 < (l0_0.length : Int) := of_decide_eq_true (by first | (with_reducible assumption) | assumption)
                        obtain ⟨ad117, e117, hx117_0⟩ := Kd.at_string HR0_0.out x4_1 p117 q117
                        cases e117
                        replace hx117_0 := (HB.out.cell (World.block_lt_of_cell? w _ hx117_0)).trans hx117_0
                        replace p117 := eq_true p117
                        replace q117 := eq_true q117
                        have p118 : 0 ≤ (x4_1 : Int) := of_decide_eq_true (by first | (with_reducible assumption) | assumption)
                        have q118 : x4_1 < (l0_1.length : Int) := of_decide_eq_true (by first | (with_reducible assumption) | assumption)
                        obtain ⟨ad118, e118, hx118_0⟩ := Kd.at_string HR0_1.out x4_1 p118 q118
                        cases e118
                        replace hx118_0 := (HB.out.cell (World.block_lt_of_cell? w _ hx118_0)).trans hx118_0
                        replace p118 := eq_true p118
                        replace q118 := eq_true q118
                        have p119 : 0 ≤ (x4_1 : Int) := of_decide_eq_true (by first | (with_reducible assumption) | assumption)
                        have q119 : x4_1 < (l0_1.length : Int) := of_decide_eq_true (by first | (with_reducible assumption) | assumption)
                        obtain ⟨ad119, e119, hx119_0⟩ := Kd.at_string HR0_1.out x4_1 p119 q119
                        obtain rfl : ad118 = ad119 := (by injection e119)
                        replace hx119_0 := (HB.out.cell (World.block_lt_of_cell? w _ hx119_0)).trans hx119_0
                        replace p119 := eq_true p119
                        replace q119 := eq_true q119
                        go_wp2
                        go_roundg k1
                        case measure => have := HK1.out; omega
                        case rel => exact ⟨(((((x3_1 ++ (rdOf ByteArray.empty l0_0 x4_1)) ++ (⟨#[32]⟩ : ByteArray)) ++ (rdOf ByteArray.empty l0_1 x4_1)) ++ (⟨#[32]⟩ : ByteArray)) ++ (⟨#[58, 32]⟩ : ByteArray)), (wrap64 (x4_1 + 1)), (by first | rfl | (simp; done) | (simp [*]; done) | (simp [wrap64]; done)), (by first | rfl | (simp; done) | (simp [*]; done) | (simp [wrap64]; done)), H', ⟨by have := HK1.out; omega⟩, ⟨by (with_reducible repeat (first | refine blk_drewN ?_ _ | refine blk_drew ?_ | refine blk_alloc ?_ _)); exact BK116.out⟩, ⟨by repeat (first | (with_reducible first | exact HB.out | apply below_alloc | apply pw_below_drewN | apply below_drew1 | refine below_set ?_ GE116.out) | exact HB.out)⟩⟩
                      · rw [if_neg c13] at H
                        exact absurd H (by simp)
                    · rw [if_neg c12] at H
                      exact absurd H (by simp)
                  · rw [if_neg c11] at H
                    exact absurd H (by simp)
              · rw [if_neg c7] at H
                exact absurd H (by simp)
            · rw [if_neg c6] at H
              exact absurd H (by simp)
          · rw [if_neg c5] at H
            exact absurd H (by simp)
        · rw [if_neg c4] at H
          exact absurd H (by simp)
      · rw [if_neg c3] at H
        have c3b0 : decide (x4_1 < (l0_0.length : Int)) = false := decide_eq_false c3
        clear c3
        replace H := Option.bind_eq_some_iff.mp H
        obtain ⟨t120, A150, H⟩ := H
        replace H : (if x3_1.size + t120.size ≤ 9223372036854775807 then (some (x3_1 ++ t120)) else (none)) = some r := H
        have A15 := Aside0.mk A150
        clear A150
        by_cases c16 : x3_1.size + t120.size ≤ 9223372036854775807
        · rw [if_pos c16] at H
          have c16b0 := eq_true c16
          have c16b1 : decide (x3_1.size + t120.size ≤ 9223372036854775807) = true := decide_eq_true c16
          try have c16b2 : (9223372036854775807 < x3_1.size + t120.size) = False := eq_false (Nat.not_lt.2 c16)
          try (have c16s := c16; simp [] at c16s)
          obtain rfl := Option.some.inj H
          have hcz17_0 : wr.cell? ⟨gb116, 0, none⟩ = some (.slice A0_0 l0_0.length c0_0) := (blk_cell BK116.out 0).trans rfl
          have hcz17_1 : wr.cell? ⟨gb116, 1, none⟩ = some (.slice A0_1 l0_1.length c0_1) := (blk_cell BK116.out 1).trans rfl
          have hcz17_2 : wr.cell? ⟨gb116, 2, none⟩ = some (.int .i64 a0_2) := (blk_cell BK116.out 2).trans rfl
          have hfz17_0 := blk_frozen BK116.out 0
          have hfz17_1 := blk_frozen BK116.out 1
          have hfz17_2 := blk_frozen BK116.out 2
          go_wp2_with (first | ((with_reducible refine gate_callee (f := 41) rfl ?_); refine goesL_ (some 39) rfl rfl Tryd.func41 (by kernel_rfl) rfl #[.int .i64 a0_2] rfl (by (try simp only [List.map_toArray, List.map_cons, List.map_nil]); first | done | rfl | (simp only [List.length_drop, List.length_take]; rfl)) ?_; (with_reducible refine (errno_Error.calls a0_2 t120 _ A15.out).mono ?_); rintro e w18 ⟨rfl, hb⟩; refine ⟨_, rfl, ?_⟩; have n0_ := Aside0.mk (blk_below (g := gb116) (o := .cells #[.slice A0_0 l0_0.length c0_0, .slice A0_1 l0_1.length c0_1, .int .i64 a0_2] 34 (0, 0)) (by (with_reducible repeat (first | refine blk_drewN ?_ _ | refine blk_drew ?_ | refine blk_alloc ?_ _)); exact BK116.out) hb); have n1_ := Aside0.mk (below_step (by repeat (first | (with_reducible first | exact HB.out | apply below_alloc | apply pw_below_drewN | apply below_drew1 | refine below_set ?_ GE116.out) | exact HB.out)) hb); clear BK116; clear HB; have BK116 := n0_; have HB := n1_; clear n0_ n1_; (try clear hb); (try clear hb2); (try clear hk); (try clear hi)))
          go_ret
          exact ⟨by first | rfl | exact isEmpty_bne_ _ | (simp [errW_none, errW_some] <;> rfl) | (simp [*, errW_none, errW_some] <;> rfl), by repeat (first | (with_reducible first | exact HB.out | apply below_alloc | apply pw_below_drewN | apply below_drew1 | refine below_set ?_ GE116.out) | exact HB.out)⟩
        · rw [if_neg c16] at H
          exact absurd H (by simp)

/-! ### pumicelaw02_Texts: function 20 -/
def pumicelaw02_Texts.l0 : Nat → List ByteArray → List ByteArray → Int → Option (Bool)
  | 0, _, _, _ => none
  | k + 1, x0, x1, x5 => if x5 < (x0.length : Int) then (if 0 ≤ x5 then (if x5 < (x1.length : Int) then (if (rdOf ByteArray.empty x0 x5).toList = (rdOf ByteArray.empty x1 x5).toList then (pumicelaw02_Texts.l0 k x0 x1 (wrap64 (x5 + 1))) else (none)) else (none)) else (none)) else (some true)
def pumicelaw02_Texts.f (k : Nat) (l0 : List ByteArray) (l1 : List ByteArray) : Option (Bool) := if (l0.length : Int) = (l1.length : Int) then (pumicelaw02_Texts.l0 k l0 l1 0) else (none)
theorem pumicelaw02_Texts.mono_l : ∀ k, (∀ y0 y1 y2, LeO (pumicelaw02_Texts.l0 k y0 y1 y2) (pumicelaw02_Texts.l0 (k + 1) y0 y1 y2))
  | 0 => fun _ _ _ r h => by simp [pumicelaw02_Texts.l0] at h
  | k + 1 => by
    have ih0 := pumicelaw02_Texts.mono_l k
    · intro y0 y1 y2
      unfold pumicelaw02_Texts.l0
      repeat' first
      | (with_reducible exact ih0 _ _ _)
      | (with_reducible exact LeO.refl _)
      | (with_reducible exact LeO.none _)
      | (with_reducible refine LeO.ite ?_ ?_)
      | (with_reducible refine LeO.bind ?_ (fun _ => ?_))
      | exact ih0 _ _ _
      | exact LeO.none _
      | refine LeO.ite ?_ ?_
      | refine LeO.bind ?_ (fun _ => ?_)
theorem pumicelaw02_Texts.mono : ∀ a0 a1 k, LeO (pumicelaw02_Texts.f k a0 a1) (pumicelaw02_Texts.f (k + 1) a0 a1) := by
  intro a0 a1 k
  have ih0 := pumicelaw02_Texts.mono_l k
  unfold pumicelaw02_Texts.f
  repeat' first
      | (with_reducible exact ih0 _ _ _)
      | (with_reducible exact LeO.refl _)
      | (with_reducible exact LeO.none _)
      | (with_reducible refine LeO.ite ?_ ?_)
      | (with_reducible refine LeO.bind ?_ (fun _ => ?_))
      | exact ih0 _ _ _
      | exact LeO.none _
      | refine LeO.ite ?_ ?_
      | refine LeO.bind ?_ (fun _ => ?_)
set_option maxHeartbeats 8000000 in
set_option maxRecDepth 100000 in
theorem pumicelaw02_Texts.calls (k : Nat) (A0 : Option Addr) (c0 : Nat) (l0 : List ByteArray) (A1 : Option Addr) (c1 : Nat) (l1 : List ByteArray) (r : Bool) (w : World) (hr0 : Kd.C Kd.string w A0 l0.length l0) (hc0 : l0.length ≤ c0) (hr1 : Kd.C Kd.string w A1 l1.length l1) (hc1 : l1.length ≤ c1) (h : pumicelaw02_Texts.f k l0 l1 = some r) :
    Calls Tryd.prog 20 #[.slice A0 l0.length c0, .slice A1 l1.length c1] w fun e w' => e = .returned (.bool r) ∧ Drawn0 w w' := by
  have HR0 := Aside0.mk hr0
  have HC0 := Aside0.mk hc0
  clear hr0 hc0
  have HR1 := Aside0.mk hr1
  have HC1 := Aside0.mk hc1
  clear hr1 hc1
  have H : (if (l0.length : Int) = (l1.length : Int) then (pumicelaw02_Texts.l0 k l0 l1 0) else (none)) = some r := h
  clear h
  by_cases c3 : (l0.length : Int) = (l1.length : Int)
  · rw [if_pos c3] at H
    have c3b0 : ((l0.length : Int) == (l1.length : Int)) = true := beq_iff_eq.mpr c3
    have c3b1 : ((l0.length : Int) != (l1.length : Int)) = false := bne_eq_false_iff_eq.mpr c3
    have c3b2 : (l0.length == l1.length) = true := by first | simpa using c3 | (simp at c3 ⊢; omega)
    clear c3
    have H' := Aside0.mk H
    clear H
    go_enter Tryd.func20, Tryd.ntmps20
    go_wp2
    repeat (go_quiet (fail); try go_wp2)
    go_loopg [5] k (fun kq v5 w' => ∃ (x5_1 : Int), v5 = .int .i64 x5_1 ∧ Aside0 (pumicelaw02_Texts.l0 kq l0 l1 x5_1 = some r) ∧ Aside0 (kq ≤ k) ∧ Drawn0 w w')
    case atStart => exact ⟨(0), (by first | rfl | (simp; done) | (simp [*]; done) | (simp [wrap64]; done)), H', ⟨Nat.le_refl _⟩, by repeat (first | exact Drawn0.refl _ | apply Drawn0.step)⟩
    case round =>
      clear H'
      try clear c1
      try clear c2
      try clear p2
      try clear c3
      try clear c3b0
      try clear c3b1
      try clear c3b2
      obtain ⟨x5_1, rfl, HA, HK1, ⟨m1, rfl⟩⟩ := hrel
      cases gk with
      | zero => exact absurd HA.out (by simp [pumicelaw02_Texts.l0])
      | succ k1 =>
        have H := HA.out
        clear HA
        simp only [pumicelaw02_Texts.l0] at H
        by_cases c4 : x5_1 < (l0.length : Int)
        · rw [if_pos c4] at H
          have c4b0 : decide (x5_1 < (l0.length : Int)) = true := decide_eq_true c4
          clear c4
          by_cases c5 : 0 ≤ x5_1
          · rw [if_pos c5] at H
            have c5b0 : decide (0 ≤ x5_1) = true := decide_eq_true c5
            clear c5
            by_cases c6 : x5_1 < (l1.length : Int)
            · rw [if_pos c6] at H
              have c6b0 : decide (x5_1 < (l1.length : Int)) = true := decide_eq_true c6
              clear c6
              by_cases c7 : (rdOf ByteArray.empty l0 x5_1).toList = (rdOf ByteArray.empty l1 x5_1).toList
              · rw [if_pos c7] at H
                have c7b0 : ((rdOf ByteArray.empty l0 x5_1).toList == (rdOf ByteArray.empty l1 x5_1).toList) = true := beq_iff_eq.mpr c7
                have c7b1 : ((rdOf ByteArray.empty l0 x5_1).toList != (rdOf ByteArray.empty l1 x5_1).toList) = false := bne_eq_false_iff_eq.mpr c7
                clear c7
                have H' := Aside0.mk H
                clear H
                have p121 : 0 ≤ (x5_1 : Int) := of_decide_eq_true (by first | (with_reducible assumption) | assumption)
                have q121 : x5_1 < (l0.length : Int) := of_decide_eq_true (by first | (with_reducible assumption) | assumption)
                obtain ⟨ad121, e121, hx121_0⟩ := Kd.at_string HR0.out x5_1 p121 q121
                cases e121
                replace p121 := eq_true p121
                replace q121 := eq_true q121
                have p122 : 0 ≤ (x5_1 : Int) := of_decide_eq_true (by first | (with_reducible assumption) | assumption)
                have q122 : x5_1 < (l1.length : Int) := of_decide_eq_true (by first | (with_reducible assumption) | assumption)
                obtain ⟨ad122, e122, hx122_0⟩ := Kd.at_string HR1.out x5_1 p122 q122
                cases e122
                replace p122 := eq_true p122
                replace q122 := eq_true q122
                go_wp2
                repeat (go_quiet (fail); try go_wp2)
                go_roundg k1
                case measure => have := HK1.out; omega
                case rel => exact ⟨(wrap64 (x5_1 + 1)), (by first | rfl | (simp; done) | (simp [*]; done) | (simp [wrap64]; done)), H', ⟨by have := HK1.out; omega⟩, by repeat (first | exact Drawn0.refl _ | apply Drawn0.step)⟩
              · rw [if_neg c7] at H
                exact absurd H (by simp)
            · rw [if_neg c6] at H
              exact absurd H (by simp)
          · rw [if_neg c5] at H
            exact absurd H (by simp)
        · rw [if_neg c4] at H
          have c4b0 : decide (x5_1 < (l0.length : Int)) = false := decide_eq_false c4
          clear c4
          obtain rfl := Option.some.inj H
          go_wp2
          repeat (go_quiet (fail); try go_wp2)
          go_ret
          exact ⟨by first | rfl | exact isEmpty_bne_ _ | (simp; done) | (simp [*]; done) | (simp [wrap64]; done), by repeat (first | exact Drawn0.refl _ | apply Drawn0.step)⟩
  · rw [if_neg c3] at H
    exact absurd H (by simp)

end Go.Proofs.YtfmmmojlnfndkaaDoor.Z

namespace Go.Proofs.YtfmmmojlnfndkaaDoor.As
open Go.RowKit Go.Proofs.YtfmmmojlnfndkaaDoorW.PrintWords Go.Proofs.YtfmmmojlnfndkaaDoorW.PrintLast
theorem texts_self (l : List ByteArray) (hl : l.length ≤ 1048576) : ∀ (d k i : Nat), l.length - i = d → i ≤ l.length → d + 1 ≤ k → Z.pumicelaw02_Texts.l0 k l l (i : Int) = some true := by
  intro d
  induction d with
  | zero =>
    intro k i h0 h1 h2
    obtain ⟨j, rfl⟩ : ∃ j, k = j + 1 := ⟨k - 1, by omega⟩
    rw [Z.pumicelaw02_Texts.l0, if_neg (by omega)]
  | succ d ih =>
    intro k i h0 h1 h2
    obtain ⟨j, rfl⟩ : ∃ j, k = j + 1 := ⟨k - 1, by omega⟩
    have hw : wrap64 ((i : Int) + 1) = ((i + 1 : Nat) : Int) := by rw [Q.w64 _ (by omega)]; omega
    rw [Z.pumicelaw02_Texts.l0, if_pos (by omega), if_pos (by omega), if_pos (by omega), if_pos rfl, hw]
    exact ih j (i + 1) (by omega) (by omega) (by omega)
theorem texts_f (l : List ByteArray) (hl : l.length ≤ 1048576) : Z.pumicelaw02_Texts.f (l.length + 1) l l = some true := by
  unfold Z.pumicelaw02_Texts.f
  rw [if_pos rfl]
  exact texts_self l hl l.length (l.length + 1) 0 (by omega) (by omega) (by omega)
theorem rdOf_at {l : List ByteArray} {i : Nat} {x : ByteArray} (h : l[i]? = some x) : rdOf ByteArray.empty l (i : Int) = x := by
  unfold rdOf
  simp [List.getD_eq_getElem?_getD, h]
theorem ba_assoc3 (a b c : ByteArray) : a ++ b ++ c = a ++ (b ++ c) := ByteArray.append_assoc
theorem part_shift (s : ByteArray) (p : ByteArray × ByteArray) (t : ByteArray) : part s p ++ t = s ++ (part ⟨#[]⟩ p ++ t) := by
  have e1 : (⟨#[]⟩ : ByteArray) ++ p.1 = p.1 := ByteArray.empty_append
  unfold part
  split <;> rw [e1] <;> simp only [ba_assoc3]
theorem text_l0 (P : List (ByteArray × ByteArray)) (e : Int) (h0 : -9223372036854775808 ≤ e) (h1 : e ≤ 9223372036854775807) (hP : big P) (hl : P.length ≤ 1048576) :
    ∀ (d k i : Nat) (s : ByteArray), P.length - i = d → i ≤ P.length → d + 1 ≤ k → s.size ≤ 2097156 * i → Z.pumiceref04_Text.l0 k s (i : Int) (P.map (·.1)) (P.map (·.2)) e = some (s ++ txtOf (P.drop i) e) := by
  intro d
  induction d with
  | zero =>
    intro k i s h2 h3 h4 hs
    obtain ⟨j, rfl⟩ : ∃ j, k = j + 1 := ⟨k - 1, by omega⟩
    obtain rfl : i = P.length := by omega
    have hz := Z.errTxt_size e
    rw [Z.pumiceref04_Text.l0, if_neg (by rw [List.length_map]; omega), List.drop_length]
    unfold Z.errno_Error.f
    rw [if_pos ⟨h0, h1⟩, Option.bind_some, if_pos (by omega)]
    rfl
  | succ d ih =>
    intro k i s h2 h3 h4 hs
    obtain ⟨j, rfl⟩ : ∃ j, k = j + 1 := ⟨k - 1, by omega⟩
    have hlt : i < P.length := by omega
    have hw : wrap64 ((i : Int) + 1) = ((i + 1 : Nat) : Int) := by rw [Q.w64 _ (by omega)]; omega
    have hp : P[i]? = some P[i] := List.getElem?_eq_getElem hlt
    have hb := hP P[i] (List.getElem_mem hlt)
    have r0 : rdOf ByteArray.empty (P.map (·.1)) (i : Int) = P[i].1 := rdOf_at (by rw [List.getElem?_map, hp]; rfl)
    have r1 : rdOf ByteArray.empty (P.map (·.2)) (i : Int) = P[i].2 := rdOf_at (by rw [List.getElem?_map, hp]; rfl)
    have z1 : (⟨#[32]⟩ : ByteArray).size = 1 := rfl
    have hd : P.drop i = P[i] :: P.drop (i + 1) := List.drop_eq_getElem_cons hlt
    have hsz := part_size s P[i] hb
    have hi := ih j (i + 1) (part s P[i]) (by omega) (by omega) (by omega) (by omega)
    rw [hd, txtOf, ← part_shift, ← hi]
    rw [Z.pumiceref04_Text.l0, if_pos (by rw [List.length_map]; omega), if_pos (by omega), r0, r1, if_pos (by omega), if_pos (by rw [ByteArray.size_append]; omega), if_pos (by rw [List.length_map]; omega), hw]
    by_cases hn : P[i].2.toList = []
    · rw [if_pos hn, if_pos (by simp only [ByteArray.size_append, z1]; omega)]
      unfold part
      rw [if_pos hn]
    · rw [if_neg hn, if_pos (by simp only [ByteArray.size_append, z1]; omega), if_pos (by simp only [ByteArray.size_append, z1]; omega), if_pos (by simp only [ByteArray.size_append, z1]; omega)]
      unfold part
      rw [if_neg hn]
theorem text_f (P : List (ByteArray × ByteArray)) (e : Int) (h0 : -9223372036854775808 ≤ e) (h1 : e ≤ 9223372036854775807) (hP : big P) (hl : P.length ≤ 1048576) : Z.pumiceref04_Text.f (P.length + 1) (P.map (·.1)) (P.map (·.2)) e = some (txtOf P e) := by
  have h := text_l0 P e h0 h1 hP hl P.length (P.length + 1) 0 ⟨#[]⟩ (by omega) (by omega) (by omega) (Nat.zero_le _)
  rw [List.drop_zero, show (⟨#[]⟩ : ByteArray) ++ txtOf P e = txtOf P e from ByteArray.empty_append] at h
  exact h
end Go.Proofs.YtfmmmojlnfndkaaDoor.As

namespace Go.Proofs.YtfmmmojlnfndkaaDoor.As
open Go.RowKit Go.Proofs.YtfmmmojlnfndkaaDoorW.PrintWords Go.Proofs.YtfmmmojlnfndkaaDoorW.PrintLast Go.Extern.Stop Go.Stop Go.Extern
set_option linter.unusedVariables false
set_option linter.unusedSimpArgs false
theorem ofNilB (w : World) : Calls Tryd.prog 18 #[.nilIface] w fun ev w' => ev = .returned (.int .i64 0) ∧ Below w.heap.size w w' := by
  refine (ofNil w).mono ?_
  rintro ev w' ⟨rfl, rfl⟩
  exact ⟨rfl, Below.refl _ _⟩
theorem ops0 (e : Int) (w : World) (hg : w.cell? ⟨0, 0, none⟩ = some (.iface 93 (.agg #[.pointer (some ⟨4, 32, none⟩)]))) : Calls Tryd.prog 19 #[.iface 22 (.int .i64 e)] w fun ev w' => ∃ A c, ev = .returned (.slice A 0 c) ∧ Below w.heap.size w w' := opsLen _ 0 e [] 0 w (.errno e) rfl (by omega) hg
set_option maxHeartbeats 8000000 in
set_option maxRecDepth 100000 in
theorem wraps0 (A0 : Option Addr) (c0 : Nat) (l0 : List ByteArray) (A1 : Option Addr) (c1 : Nat) (l1 : List ByteArray) (w : World) (hL : Laid w) (hr0 : Kd.C Kd.string w A0 l0.length l0) (hr1 : Kd.C Kd.string w A1 l1.length l1) (hm0 : l0.length ≤ 1048576) :
    Calls Tryd.prog 5 #[.slice A0 l0.length c0, .slice A1 l1.length c1, .int .i64 0] w fun ev w' => ev = .returned (.bool true) ∧ Below w.heap.size w w' := by
  have hA := wrapped0 A0 c0 l0 A1 c1 l1 w hL hr0 hr1 hm0
  have HG0 := Aside0.mk hL
  clear hr0 hr1 hL
  go_enter Tryd.func5, Tryd.ntmps5
  go_upto_region 2 with (first | ((with_reducible refine gate_callee (f := 17) rfl ?_); refine goesL_ (some 14) rfl rfl Tryd.func17 (by kernel_rfl) rfl #[.slice A0 l0.length c0, .slice A1 l1.length c1, .int .i64 0] rfl (by (try simp only [List.map_toArray, List.map_cons, List.map_nil]); first | done | rfl) ?_; (with_reducible refine (hA).mono ?_); rintro e' w1 ⟨u, A2, c2, A3, c3, rfl, hu, hb⟩; refine ⟨_, rfl, ?_⟩; have HU := Aside0.mk hu; have HW := Aside0.mk hb; clear hu hb))
  have n0 : Aside0 (Below w.heap.size w (w1.alloc (.cells #[.slice A2 0 c2, .slice A3 0 c3, .int .i64 0] 34))) := Aside0.mk (Below.alloc HW.out HW.out.size _)
  have HG := Aside0.mk (HG0.out.on n0.out)
  clear HW
  have HW := n0
  clear n0 HG0
  obtain ⟨w2, hw2⟩ : ∃ w2, w2 = w1.alloc (.cells #[.slice A2 0 c2, .slice A3 0 c3, .int .i64 0] 34) := ⟨_, rfl⟩
  rw [← hw2] at HW HG ⊢
  clear hw2
  rcases HU.out with ⟨hz, rfl⟩ | ⟨hz, rfl⟩
  · have hz1 : ((l0.length : Int) == 0) = true := by rw [hz]; rfl
    clear HU hz
    go_wp2_with (first | ((with_reducible refine gate_callee (f := 18) rfl ?_); (refine gate_guard (by first | rfl | kernel_rfl) ?_); refine goesL_ (some 33) rfl rfl Tryd.func18 (by kernel_rfl) rfl #[.iface 22 (.int .i64 0)] rfl (by (try simp only [List.map_toArray, List.map_cons, List.map_nil]); first | done | rfl) ?_; (with_reducible refine (ofE _ 0 0 [] _ (.errno 0) HG.out.et).mono ?_); rintro e' w' ⟨rfl, hb⟩; refine ⟨_, rfl, ?_⟩; have n0_ := Aside0.mk (below_step HW.out hb); have n1_ := Aside0.mk (HG.out.on hb); clear HW HG; have HW := n0_; have HG := n1_; clear n0_ n1_ hb) | ((with_reducible refine gate_callee (f := 19) rfl ?_); (refine gate_guard (by first | rfl | kernel_rfl) ?_); refine goesL_ (some 39) rfl rfl Tryd.func19 (by kernel_rfl) rfl #[.iface 22 (.int .i64 0)] rfl (by (try simp only [List.map_toArray, List.map_cons, List.map_nil]); first | done | rfl) ?_; (with_reducible refine (ops0 0 _ HG.out.et).mono ?_); rintro e' w' ⟨A9, c9, rfl, hb⟩; refine ⟨_, rfl, ?_⟩; have n0_ := Aside0.mk (below_step HW.out hb); have n1_ := Aside0.mk (HG.out.on hb); clear HW HG; have HW := n0_; have HG := n1_; clear n0_ n1_ hb) | ((with_reducible refine gate_callee (f := 16) rfl ?_); (refine gate_guard (by first | rfl | kernel_rfl) ?_); refine goesL_ (some 44) rfl rfl Tryd.func16 (by kernel_rfl) rfl #[] rfl (by (try simp only [List.map_toArray, List.map_cons, List.map_nil]); first | done | rfl) ?_; (with_reducible refine (Q.alive.calls true _ HG.out rfl).mono ?_); rintro e' w' ⟨rfl, hb⟩; refine ⟨_, rfl, ?_⟩; have n0_ := Aside0.mk (below_step HW.out hb); have n1_ := Aside0.mk (HG.out.on hb); clear HW HG; have HW := n0_; have HG := n1_; clear n0_ n1_ hb))
    all_goals (try go_wp2)
    all_goals (try go_ret)
    all_goals (exact ⟨rfl, HW.out⟩)
  · have hz1 : ((l0.length : Int) == 0) = false := beq_eq_false_iff_ne.mpr (by omega)
    clear HU hz
    go_wp2_with (first | ((with_reducible refine gate_callee (f := 18) rfl ?_); (refine gate_guard (by first | rfl | kernel_rfl) ?_); refine goesL_ (some 33) rfl rfl Tryd.func18 (by kernel_rfl) rfl #[.nilIface] rfl (by (try simp only [List.map_toArray, List.map_cons, List.map_nil]); first | done | rfl) ?_; (with_reducible refine (ofNilB _).mono ?_); rintro e' w' ⟨rfl, hb⟩; refine ⟨_, rfl, ?_⟩; have n0_ := Aside0.mk (below_step HW.out hb); have n1_ := Aside0.mk (HG.out.on hb); clear HW HG; have HW := n0_; have HG := n1_; clear n0_ n1_ hb) | ((with_reducible refine gate_callee (f := 19) rfl ?_); (refine gate_guard (by first | rfl | kernel_rfl) ?_); refine goesL_ (some 39) rfl rfl Tryd.func19 (by kernel_rfl) rfl #[.nilIface] rfl (by (try simp only [List.map_toArray, List.map_cons, List.map_nil]); first | done | rfl) ?_; (with_reducible refine (opsNil _ HG.out.et).mono ?_); rintro e' w' ⟨A9, c9, rfl, hb⟩; refine ⟨_, rfl, ?_⟩; have n0_ := Aside0.mk (below_step HW.out hb); have n1_ := Aside0.mk (HG.out.on hb); clear HW HG; have HW := n0_; have HG := n1_; clear n0_ n1_ hb) | ((with_reducible refine gate_callee (f := 16) rfl ?_); (refine gate_guard (by first | rfl | kernel_rfl) ?_); refine goesL_ (some 44) rfl rfl Tryd.func16 (by kernel_rfl) rfl #[] rfl (by (try simp only [List.map_toArray, List.map_cons, List.map_nil]); first | done | rfl) ?_; (with_reducible refine (Q.alive.calls true _ HG.out rfl).mono ?_); rintro e' w' ⟨rfl, hb⟩; refine ⟨_, rfl, ?_⟩; have n0_ := Aside0.mk (below_step HW.out hb); have n1_ := Aside0.mk (HG.out.on hb); clear HW HG; have HW := n0_; have HG := n1_; clear n0_ n1_ hb))
    all_goals (try go_wp2)
    all_goals (try go_ret)
    all_goals (exact ⟨rfl, HW.out⟩)
set_option maxHeartbeats 8000000 in
set_option maxRecDepth 100000 in
theorem wrapsN (A0 : Option Addr) (c0 : Nat) (l0 : List ByteArray) (A1 : Option Addr) (c1 : Nat) (l1 : List ByteArray) (e : Int) (w : World) (hL : Laid w) (hr0 : Kd.C Kd.string w A0 l0.length l0) (hr1 : Kd.C Kd.string w A1 l1.length l1) (hm0 : l0.length ≤ 1048576) (hb0 : ∀ x ∈ l0, x.size ≤ 1048576) (hb1 : ∀ x ∈ l1, x.size ≤ 1048576) (he : e ≠ 0) (hn : l0.length = 0) :
    Calls Tryd.prog 5 #[.slice A0 l0.length c0, .slice A1 l1.length c1, .int .i64 e] w fun ev w' => ev = .returned (.bool true) ∧ Below w.heap.size w w' := by
  have hA := wrappedE A0 c0 l0 A1 c1 l1 e w hL hr0 hr1 hm0 hb0 hb1 he
  have HG0 := Aside0.mk hL
  have HN := Aside0.mk hn
  have hz1 : ((l0.length : Int) == 0) = true := by rw [hn]; rfl
  have he1 : (e == 0) = false := by simpa using he
  clear hr0 hr1 hL hb0 hb1 he hn
  go_enter Tryd.func5, Tryd.ntmps5
  go_upto_region 2 with (first | ((with_reducible refine gate_callee (f := 17) rfl ?_); refine goesL_ (some 14) rfl rfl Tryd.func17 (by kernel_rfl) rfl #[.slice A0 l0.length c0, .slice A1 l1.length c1, .int .i64 e] rfl (by (try simp only [List.map_toArray, List.map_cons, List.map_nil]); first | done | rfl) ?_; (with_reducible refine (hA).mono ?_); rintro e' w1 ⟨u, v0, v1, P, rfl, hc, hl, hbg, r0, r1, hb⟩; refine ⟨_, rfl, ?_⟩; have HC := Aside0.mk hc; have HPl := Aside0.mk hl; have HPb := Aside0.mk hbg; have HR0 := Aside0.mk r0; have HR1 := Aside0.mk r1; have HW := Aside0.mk hb; clear hc hl hbg r0 r1 hb; obtain ⟨A2, c2, hv0⟩ := Kd.R_slice HR0.out; obtain ⟨A3, c3, hv1⟩ := Kd.R_slice HR1.out; subst hv0 hv1))
  obtain rfl : P = [] := List.eq_nil_of_length_eq_zero (by rw [HPl.out]; exact HN.out)
  cases HC.out with
  | errno e =>
    have n0 : Aside0 (Below w.heap.size w (w1.alloc (.cells #[.slice A2 0 c2, .slice A3 0 c3, .int .i64 e] 34))) := Aside0.mk (Below.alloc HW.out HW.out.size _)
    have HG := Aside0.mk (HG0.out.on n0.out)
    clear HW HC HPl HPb HR0 HR1
    have HW := n0
    clear n0 HG0
    go_wp2_with (first | ((with_reducible refine gate_callee (f := 18) rfl ?_); (refine gate_guard (by first | rfl | kernel_rfl) ?_); refine goesL_ (some 33) rfl rfl Tryd.func18 (by kernel_rfl) rfl #[.iface 22 (.int .i64 e)] rfl (by (try simp only [List.map_toArray, List.map_cons, List.map_nil]); first | done | rfl) ?_; (with_reducible refine (ofE _ 0 e [] _ (.errno e) HG.out.et).mono ?_); rintro e' w' ⟨rfl, hb⟩; refine ⟨_, rfl, ?_⟩; have n0_ := Aside0.mk (below_step HW.out hb); have n1_ := Aside0.mk (HG.out.on hb); clear HW HG; have HW := n0_; have HG := n1_; clear n0_ n1_ hb) | ((with_reducible refine gate_callee (f := 19) rfl ?_); (refine gate_guard (by first | rfl | kernel_rfl) ?_); refine goesL_ (some 39) rfl rfl Tryd.func19 (by kernel_rfl) rfl #[.iface 22 (.int .i64 e)] rfl (by (try simp only [List.map_toArray, List.map_cons, List.map_nil]); first | done | rfl) ?_; (with_reducible refine (ops0 e _ HG.out.et).mono ?_); rintro e' w' ⟨A9, c9, rfl, hb⟩; refine ⟨_, rfl, ?_⟩; have n0_ := Aside0.mk (below_step HW.out hb); have n1_ := Aside0.mk (HG.out.on hb); clear HW HG; have HW := n0_; have HG := n1_; clear n0_ n1_ hb) | ((with_reducible refine gate_callee (f := 16) rfl ?_); (refine gate_guard (by first | rfl | kernel_rfl) ?_); refine goesL_ (some 44) rfl rfl Tryd.func16 (by kernel_rfl) rfl #[] rfl (by (try simp only [List.map_toArray, List.map_cons, List.map_nil]); first | done | rfl) ?_; (with_reducible refine (Q.alive.calls true _ HG.out rfl).mono ?_); rintro e' w' ⟨rfl, hb⟩; refine ⟨_, rfl, ?_⟩; have n0_ := Aside0.mk (below_step HW.out hb); have n1_ := Aside0.mk (HG.out.on hb); clear HW HG; have HW := n0_; have HG := n1_; clear n0_ n1_ hb))
    all_goals (try go_wp2)
    all_goals (try go_ret)
    all_goals (exact ⟨rfl, HW.out⟩)
end Go.Proofs.YtfmmmojlnfndkaaDoor.As

namespace Go.Proofs.YtfmmmojlnfndkaaDoor.As
open Go.RowKit Go.Proofs.YtfmmmojlnfndkaaDoorW.PrintWords Go.Proofs.YtfmmmojlnfndkaaDoorW.PrintLast Go.Extern.Stop Go.Stop Go.Extern
set_option linter.unusedVariables false
set_option linter.unusedSimpArgs false
structure Sw (w0 w : World) (z : Nat) (e : Int) (b : Nat) (o h : ByteArray) (v : Value) (P : List (ByteArray × ByteArray)) (q2 o2 c2 q3 o3 c3 m : Nat) : Prop where
  laid : Laid w
  below : Below w0.heap.size w0 w
  box : w.heap[z]? = some (.cells #[.slice (some ⟨q2, o2, none⟩) m c2, .slice (some ⟨q3, o3, none⟩) m c3, .int .i64 e] 34)
  top : w.heap[b]? = some (.cells #[.string o, .string h, v] 46)
  cw : Cw w v P e
  r0 : Kd.C Kd.string w (some ⟨q2, o2, none⟩) m (((o, h) :: P).map (·.1))
  r1 : Kd.C Kd.string w (some ⟨q3, o3, none⟩) m (((o, h) :: P).map (·.2))
  t0 : w.cell? ⟨q2, o2, none⟩ = some (.string o)
  t1 : w.cell? ⟨q3, o3, none⟩ = some (.string h)
section
variable {w0 w w' : World} {z b q2 o2 c2 q3 o3 c3 m : Nat} {e : Int} {o h : ByteArray} {v : Value} {P : List (ByteArray × ByteArray)}
theorem Sw.on (S : Sw w0 w z e b o h v P q2 o2 c2 q3 o3 c3 m) (hb : Below w.heap.size w w') : Sw w0 w' z e b o h v P q2 o2 c2 q3 o3 c3 m :=
  ⟨S.laid.on hb, below_step S.below hb, heap_below hb S.box, heap_below hb S.top, S.cw.on hb, Kd.C_below S.r0 hb, Kd.C_below S.r1 hb, cell_below hb S.t0, cell_below hb S.t1⟩
theorem Sw.cv (S : Sw w0 w z e b o h v P q2 o2 c2 q3 o3 c3 m) : w.cell? ⟨b, 2, none⟩ = some v := by simp only [World.cell?, S.top]; rfl
theorem Sw.cells (S : Sw w0 w z e b o h v P q2 o2 c2 q3 o3 c3 m) : w.cell? ⟨z, 0, none⟩ = some (.slice (some ⟨q2, o2, none⟩) m c2) ∧ w.cell? ⟨z, 1, none⟩ = some (.slice (some ⟨q3, o3, none⟩) m c3) ∧ w.cell? ⟨z, 2, none⟩ = some (.int .i64 e) ∧ w.cell? ⟨b, 0, none⟩ = some (.string o) ∧ w.cell? ⟨b, 1, none⟩ = some (.string h) ∧ w.cell? ⟨b, 2, none⟩ = some v ∧ w.cell? ⟨q2, o2, none⟩ = some (.string o) ∧ w.cell? ⟨q3, o3, none⟩ = some (.string h) := by
  refine ⟨?_, ?_, ?_, ?_, ?_, S.cv, S.t0, S.t1⟩
  · simp only [World.cell?, S.box]; rfl
  · simp only [World.cell?, S.box]; rfl
  · simp only [World.cell?, S.box]; rfl
  · simp only [World.cell?, S.top]; rfl
  · simp only [World.cell?, S.top]; rfl
theorem Sw.chain (S : Sw w0 w z e b o h v P q2 o2 c2 q3 o3 c3 m) : Cw w (.iface 40 (.pointer (some ⟨b, 0, none⟩))) ((o, h) :: P) e := .wrap b o h v P e S.top S.cw
theorem Sw.ch (S : Sw w0 w z e b o h v P q2 o2 c2 q3 o3 c3 m) : Ch w (.iface 40 (.pointer (some ⟨b, 0, none⟩))) ((o, h) :: P).length (some e) (((o, h) :: P).map (·.1)) := S.chain.ch
theorem errAt (S : Sw w0 w z e b o h v P q2 o2 c2 q3 o3 c3 m) (hi : -9223372036854775808 ≤ e ∧ e ≤ 9223372036854775807) (hb : big ((o, h) :: P)) (hl : ((o, h) :: P).length ≤ 1048576) {T : ByteArray} (hT : txtOf ((o, h) :: P) e = T) :
    Calls Tryd.prog 22 #[.pointer (some ⟨b, 0, none⟩)] w fun ev w' => ev = .returned (.string T) ∧ Below w.heap.size w w' := by
  subst hT
  rcases error_calls S.chain hi.1 hi.2 hb (by omega) with ⟨b', hb', hc⟩ | ⟨hv, _⟩
  · cases hb'; exact hc
  · cases hv
theorem textAt (S : Sw w0 w z e b o h v P q2 o2 c2 q3 o3 c3 m) (hi : -9223372036854775808 ≤ e ∧ e ≤ 9223372036854775807) (hb : big ((o, h) :: P)) (hl : ((o, h) :: P).length ≤ 1048576) {T : ByteArray} (hT : txtOf ((o, h) :: P) e = T) (hm : (((o, h) :: P).map (·.1)).length = m) (hc2 : m ≤ c2) (hc3 : m ≤ c3) :
    Calls Tryd.prog 23 #[.agg #[.slice (some ⟨q2, o2, none⟩) m c2, .slice (some ⟨q3, o3, none⟩) m c3, .int .i64 e]] w fun ev w' => ev = .returned (.string T) ∧ Below w.heap.size w w' := by
  subst hT
  subst hm
  have hm2 : (((o, h) :: P).map (·.1)).length = (((o, h) :: P).map (·.2)).length := by simp
  have r0 := S.r0
  have r1 := S.r1
  have hh := Z.pumiceref04_Text.calls (((o, h) :: P).length + 1) (some ⟨q2, o2, none⟩) c2 (((o, h) :: P).map (·.1)) (some ⟨q3, o3, none⟩) c3 (((o, h) :: P).map (·.2)) e (txtOf ((o, h) :: P) e) w r0 hc2 (by rw [← hm2]; exact r1) (by rw [← hm2]; exact hc3) (text_f _ e hi.1 hi.2 hb hl)
  rw [← hm2] at hh
  exact hh
end
theorem start_0 {P : Program} {ops : Array Oper} {Q : Exit → Act → World → Prop} {S : World → Prop} {ds : List Nat} {id n : Nat} {a : Act} {w : World} (l : Array Bool) (hm : P.follows .mixedOrders = true) (hn : ops.size = n) (hl : Array.replicate n false = l)
    (h : wpAnyLast P .any ops Q S ds n l a w.drew) : (Code.region id ops true).wp P Q a w := by
  subst hn
  subst hl
  exact wp_region_last hm h
theorem opsAll (v : Value) (n : Nat) (e : Int) (l : List ByteArray) (m : Nat) (w : World) (hC : Ch w v n (some e) l) (hl : l.length = m) (hm : m * 16 ≤ 140737488355328) (hg : w.cell? ⟨0, 0, none⟩ = some (.iface 93 (.agg #[.pointer (some ⟨4, 32, none⟩)]))) : Calls Tryd.prog 19 #[v] w fun ev w' => ∃ A c, ev = .returned (.slice A m c) ∧ Kd.C Kd.string w' A m l ∧ m ≤ c ∧ Below w.heap.size w w' := by
  subst hl
  refine (opsCh v (n + 1) (some e) l w (.inr ⟨n, Nat.lt_succ_self _, hC⟩) hm hg).mono ?_
  rintro ev w' ⟨v, rfl, hr, hb⟩
  obtain ⟨A, c, rfl⟩ := Kd.R_slice hr
  exact ⟨A, c, rfl, (Kd.R_reads' hr).2.2, (Kd.R_reads' hr).2.1, hb⟩
theorem textsAt (l : List ByteArray) (m : Nat) (A B : Option Addr) (c d : Nat) (w : World) (hl : l.length = m) (hm : m ≤ 1048576) (h0 : Kd.C Kd.string w A m l) (hc : m ≤ c) (h1 : Kd.C Kd.string w B m l) (hd : m ≤ d) :
    Calls Tryd.prog 20 #[.slice A m c, .slice B m d] w fun ev w' => ev = .returned (.bool true) ∧ Below w.heap.size w w' := by
  subst hl
  refine (Z.pumicelaw02_Texts.calls (l.length + 1) A c l B d l true w h0 hc h1 hd (texts_f l hm)).mono ?_
  rintro ev w' ⟨rfl, hb⟩
  exact ⟨rfl, hb.below⟩
theorem unwrapAt (b : Nat) (v : Value) (w : World) (h : w.cell? ⟨b, 2, none⟩ = some v) : Calls Tryd.prog 24 #[.pointer (some ⟨b, 0, none⟩)] w fun ev w' => ev = .returned v ∧ Below w.heap.size w w' := by
  go_enter Tryd.func24, Tryd.ntmps24
  go_wp2
  go_ret
  exact ⟨rfl, Below.refl _ _⟩
theorem asX (w : World) (b : Nat) (hL : Laid w) :
    Calls Tryd.prog 21 #[.iface 40 (.pointer (some ⟨b, 0, none⟩)), .iface 42 (.pointer (some ⟨w.heap.size, 0, none⟩))] (w.alloc (.cells #[.pointer none] 40)).drew fun ev w' => ev = .returned (.bool true) ∧ w'.cell? ⟨w.heap.size, 0, none⟩ = some (.pointer (some ⟨b, 0, none⟩)) ∧ Below w.heap.size w w' := by
  obtain ⟨W, hW⟩ : ∃ W, W = (w.alloc (.cells #[.pointer none] 40)).drew := ⟨_, rfl⟩
  have hbW : Below w.heap.size w W := by rw [hW]; exact below_drew (Below.alloc (Below.refl _ _) (Nat.le_refl _) _)
  have hn : W.heap[w.heap.size]? = some (.cells #[.pointer none] 40) := by rw [hW]; exact heap_new w _
  rw [← hW]
  clear hW
  have h1 : W.cell? ⟨w.heap.size, 0, none⟩ = some (.pointer none) := by simp only [World.cell?, hn]; rfl
  have h2 : W.frozen? ⟨w.heap.size, 0, none⟩ = false := by simp only [World.frozen?, hn]; rfl
  refine (as_hit40 ⟨b, 0, none⟩ ⟨w.heap.size, 0, none⟩ (.pointer none) W (hL.on hbW).et h1 h2).mono ?_
  rintro ev w' ⟨rfl, rfl⟩
  refine ⟨rfl, ?_, ?_⟩
  · have hx := one_setCell (u := .pointer (some ⟨b, 0, none⟩)) (heap_old (.cells #[.pointer (some ⟨b, 0, none⟩)] 40) (heap_old (.cells #[.pointer (some ⟨4, 42, none⟩), .pointer (some ⟨W.heap.size, 0, none⟩), .int .u64 150] 77) (heap_old (.cells #[.pointer (some ⟨4, 42, none⟩), .pointer (some ⟨W.heap.size, 0, none⟩), .int .u64 150] 77) (heap_old (.cells #[.pointer (some ⟨w.heap.size, 0, none⟩)] 42) hn))))
    simp only [World.cell?, hx]
    rfl
  · refine Below.setCell (p := ⟨w.heap.size, 0, none⟩) ?_ (Nat.le_refl w.heap.size) _
    have hs := hbW.size
    repeat (refine Below.alloc ?_ (by first | exact hs | (simp; omega)) _)
    exact hbW
theorem sw_start {w0 w1 : World} {e : Int} {u : Value} {P : List (ByteArray × ByteArray)} {A2 A3 : Option Addr} {c2 c3 : Nat} (hL : Laid w0) (hb : Below w0.heap.size w0 w1) (hC : Cw w1 u P e) (hP : 0 < P.length)
    (r0 : Kd.R Kd.string 9 w1 w0.heap.size (fun _ => True) (.slice A2 (P.map (·.1)).length c2) (P.map (·.1))) (r1 : Kd.R Kd.string 9 w1 w0.heap.size (fun _ => True) (.slice A3 (P.map (·.2)).length c3) (P.map (·.2))) :
    ∃ b o h v P' q2 o2 q3 o3, u = .iface 40 (.pointer (some ⟨b, 0, none⟩)) ∧ P = (o, h) :: P' ∧ A2 = some ⟨q2, o2, none⟩ ∧ A3 = some ⟨q3, o3, none⟩ ∧ P.length ≤ c2 ∧ P.length ≤ c3 ∧ Sw w0 (w1.alloc (.cells #[.slice A2 P.length c2, .slice A3 P.length c3, .int .i64 e] 34)) w1.heap.size e b o h v P' q2 o2 c2 q3 o3 c3 P.length := by
  cases hC with
  | errno e => exact absurd hP (Nat.lt_irrefl 0)
  | wrap b o h v l e htop hcw =>
    have ha := Kd.R_reads' r0
    have hb' := Kd.R_reads' r1
    obtain ⟨q2, o2, t2⟩ := texts_at ha.2.2
    obtain ⟨q3, o3, t3⟩ := texts_at hb'.2.2
    obtain ⟨rfl, y2⟩ := t2 0 o rfl
    obtain ⟨rfl, y3⟩ := t3 0 h rfl
    have hba : Below w1.heap.size w1 (w1.alloc (.cells #[.slice (some ⟨q2, o2, none⟩) ((o, h) :: l).length c2, .slice (some ⟨q3, o3, none⟩) ((o, h) :: l).length c3, .int .i64 e] 34)) := Below.alloc (Below.refl _ _) (Nat.le_refl _) _
    have hm2 : (((o, h) :: l).map (·.1)).length = ((o, h) :: l).length := List.length_map _
    have hm3 : (((o, h) :: l).map (·.2)).length = ((o, h) :: l).length := List.length_map _
    refine ⟨b, o, h, v, l, q2, o2, q3, o3, rfl, rfl, rfl, rfl, by rw [← hm2]; exact ha.2.1, by rw [← hm3]; exact hb'.2.1, ⟨?_, below_step hb hba, heap_new w1 _, heap_below hba htop, hcw.on hba, ?_, ?_, cell_below hba y2, cell_below hba y3⟩⟩
    · exact (hL.on hb).on hba
    · have := Kd.C_below ha.2.2 hba; rw [hm2] at this; exact this
    · have := Kd.C_below hb'.2.2 hba; rw [hm3] at this; exact this
set_option maxHeartbeats 400000000 in
set_option maxRecDepth 100000 in
theorem wrapsE (A0 : Option Addr) (c0 : Nat) (l0 : List ByteArray) (A1 : Option Addr) (c1 : Nat) (l1 : List ByteArray) (e : Int) (w : World) (hL : Laid w) (hr0 : Kd.C Kd.string w A0 l0.length l0) (hr1 : Kd.C Kd.string w A1 l1.length l1) (hm0 : l0.length ≤ 1048576) (hb0 : ∀ x ∈ l0, x.size ≤ 1048576) (hb1 : ∀ x ∈ l1, x.size ≤ 1048576) (he : e ≠ 0) (hn : 0 < l0.length) (hi : -9223372036854775808 ≤ e ∧ e ≤ 9223372036854775807) :
    Calls Tryd.prog 5 #[.slice A0 l0.length c0, .slice A1 l1.length c1, .int .i64 e] w fun ev w' => ev = .returned (.bool true) ∧ Below w.heap.size w w' := by
  have hA := wrappedE A0 c0 l0 A1 c1 l1 e w hL hr0 hr1 hm0 hb0 hb1 he
  have HG0 := Aside0.mk hL
  have HN := Aside0.mk hn
  have HI := Aside0.mk hi
  have HMm := Aside0.mk hm0
  have hz1 : ((l0.length : Int) == 0) = false := beq_eq_false_iff_ne.mpr (by omega)
  have he1 : (e == 0) = false := by simpa using he
  clear hr0 hr1 hL hb0 hb1 he hn hi hm0
  go_enter Tryd.func5, Tryd.ntmps5
  go_upto_region 2 with (first | ((with_reducible refine gate_callee (f := 17) rfl ?_); refine goesL_ (some 14) rfl rfl Tryd.func17 (by kernel_rfl) rfl #[.slice A0 l0.length c0, .slice A1 l1.length c1, .int .i64 e] rfl (by (try simp only [List.map_toArray, List.map_cons, List.map_nil]); first | done | rfl) ?_; (with_reducible refine (hA).mono ?_); rintro e' w1 ⟨u, v0, v1, P, rfl, hc, hl, hbg, r0, r1, hb⟩; refine ⟨_, rfl, ?_⟩; have HC := Aside0.mk hc; have HPl := Aside0.mk hl; have HBg := Aside0.mk hbg; have HR0 := Aside0.mk r0; have HR1 := Aside0.mk r1; have HW := Aside0.mk hb; clear hc hl hbg r0 r1 hb; obtain ⟨A2, c2, hv0⟩ := Kd.R_slice HR0.out; obtain ⟨A3, c3, hv1⟩ := Kd.R_slice HR1.out; subst hv0 hv1))
  obtain ⟨b, o, h, v, P', q2, o2, q3, o3, rfl, rfl, rfl, rfl, hc2, hc3, hS⟩ := sw_start HG0.out HW.out HC.out (by rw [HPl.out]; exact HN.out) HR0.out HR1.out
  have HS := Aside0.mk hS
  have HCc2 := Aside0.mk hc2
  have HCc3 := Aside0.mk hc3
  have HP1 : Aside0 (((o, h) :: P').length ≤ 1048576) := Aside0.mk (by rw [HPl.out]; exact HMm.out)
  have HM : Aside0 ((((o, h) :: P').map (·.1)).length = ((o, h) :: P').length) := Aside0.mk (by simp)
  obtain ⟨z, hz⟩ : ∃ z, z = w1.heap.size := ⟨_, rfl⟩
  obtain ⟨m, hm⟩ : ∃ m, m = ((o, h) :: P').length := ⟨_, rfl⟩
  have hm3 : P'.length + 1 = m := by rw [hm]; rfl
  have HM2 : Aside0 (m * 16 ≤ 140737488355328) := Aside0.mk (by have := HP1.out; rw [← hm] at this; omega)
  have HM3 : Aside0 (m ≤ 1048576) := Aside0.mk (by have := HP1.out; rw [← hm] at this; exact this)
  have HM0 : Aside0 (0 < m) := Aside0.mk (by omega)
  obtain ⟨T, hT⟩ : ∃ T, txtOf ((o, h) :: P') e = T := ⟨_, rfl⟩
  have HT := Aside0.mk hT
  clear hT
  obtain ⟨tv, xv, hv⟩ := hS.cw.iface
  subst hv
  rw [← hm, ← hz] at HS
  rw [← hm] at HM HCc2 HCc3
  rw [← hm]
  obtain ⟨w2, hw2⟩ : ∃ w2, w2 = w1.alloc (.cells #[.slice (some ⟨q2, o2, none⟩) m c2, .slice (some ⟨q3, o3, none⟩) m c3, .int .i64 e] 34) := ⟨_, rfl⟩
  rw [← hw2] at HS ⊢
  rw [← hz]
  clear hw2 hz hm hS hc2 hc3 HW HC HPl HR0 HR1 hm3
  have HBg' := HBg
  go_upto_region 4 with (fail)
  have n0_ := Aside0.mk (HS.out.on (below_drew (Below.refl _ w2)))
  clear HS
  have HS := n0_
  clear n0_
  obtain ⟨f0, f1, f2, f3, f4, f5, f6, f7⟩ := HS.out.cells
  go_region_held3 (fun W => W.cell? ⟨z, 0, none⟩ = some (.slice (some ⟨q2, o2, none⟩) m c2) ∧ W.cell? ⟨z, 1, none⟩ = some (.slice (some ⟨q3, o3, none⟩) m c3) ∧ W.cell? ⟨z, 2, none⟩ = some (.int .i64 e) ∧ W.cell? ⟨b, 0, none⟩ = some (.string o) ∧ W.cell? ⟨b, 1, none⟩ = some (.string h) ∧ W.cell? ⟨b, 2, none⟩ = some (.iface tv xv) ∧ W.cell? ⟨q2, o2, none⟩ = some (.string o) ∧ W.cell? ⟨q3, o3, none⟩ = some (.string h)) ((first | go_keep | exact HS.out.cells)) ((first | (go_at_call 18; (with_reducible refine (ofE _ _ e _ _ HS.out.ch HS.out.laid.et).mono ?_); rintro e' w' ⟨rfl, hb⟩; have n0_ := Aside0.mk (HS.out.on hb); clear HS; have HS := n0_; clear n0_; clear hb) | (go_at_call 19; (with_reducible refine (opsAll _ _ e _ m _ HS.out.ch HM.out HM2.out HS.out.laid.et).mono ?_); rintro e' w' ⟨A9, c9, rfl, ho, hoc, hb⟩; have HO := Aside0.mk ho; have HOc := Aside0.mk hoc; have n0_ := Aside0.mk (HS.out.on hb); clear HS; have HS := n0_; clear n0_; clear hb ho hoc) | (go_at_call 20; (with_reducible refine (textsAt _ m _ _ _ _ _ HM.out HM3.out HO.out HOc.out HS.out.r0 HCc2.out).mono ?_); rintro e' w' ⟨rfl, hb⟩; have n0_ := Aside0.mk (HS.out.on hb); clear HS; have HS := n0_; clear n0_; clear hb)))
  all_goals (try go_wp2)
  obtain ⟨w5, h5⟩ : ∃ w5, w5 = w' := ⟨_, rfl⟩
  subst h5
  clear f0 f1 f2 f3 f4 f5 f6 f7
  have hm0 : 0 < m := HM0.out
  have hm1 : (0 : Int) < (m : Int) := by omega
  have HS6 := Aside0.mk ((HS.out.on (Below.alloc (Below.refl _ w5) (Nat.le_refl _) (.cells #[.pointer none] 40))).on (below_drew (Below.refl _ _)))
  clear HS6
  refine start_0 (S := (fun W => W.cell? ⟨z, 0, none⟩ = some (.slice (some ⟨q2, o2, none⟩) m c2) ∧ W.cell? ⟨z, 1, none⟩ = some (.slice (some ⟨q3, o3, none⟩) m c3) ∧ W.cell? ⟨z, 2, none⟩ = some (.int .i64 e) ∧ W.cell? ⟨b, 0, none⟩ = some (.string o) ∧ W.cell? ⟨b, 1, none⟩ = some (.string h) ∧ W.cell? ⟨b, 2, none⟩ = some (.iface tv xv) ∧ W.cell? ⟨q2, o2, none⟩ = some (.string o) ∧ W.cell? ⟨q3, o3, none⟩ = some (.string h) ∧ W.cell? ⟨w5.heap.size, 0, none⟩ = some (.pointer (some ⟨b, 0, none⟩)))) (n := 45) (ds := []) #[false, false, false, false, false, false, false, false, false, false, false, false, false, false, false, false, false, false, false, false, false, false, false, false, false, false, false, false, false, false, false, false, false, false, false, false, false, false, false, false, false, false, false, false, false] (by kernel_rfl) rfl rfl ?_
  refine pure_ (i := 0) (N := some 62) (v := ?_) (a' := ?_) #[true, false, false, false, false, false, false, false, false, false, false, false, false, false, false, false, false, false, false, false, false, false, false, false, false, false, false, false, false, false, false, false, false, false, false, false, false, false, false, false, false, false, false, false, false] rfl rfl (by kernel_rfl) (fun _ _ _ h => h) (Or.inl ⟨by rfl, ?_⟩) ?_ ?_
  rotate_left
  · intro w'
    go_simp
    with_reducible rfl
  rotate_left
  · simp only [Act.put, List.setIfInBounds_toArray, List.set_cons_zero, List.set_cons_succ, i64_w, i32_w]
    rfl
  refine pure_ (i := 1) (N := some 63) (v := ?_) (a' := ?_) #[true, true, false, false, false, false, false, false, false, false, false, false, false, false, false, false, false, false, false, false, false, false, false, false, false, false, false, false, false, false, false, false, false, false, false, false, false, false, false, false, false, false, false, false, false] rfl rfl (by kernel_rfl) (fun _ _ _ h => h) (Or.inl ⟨by rfl, ?_⟩) ?_ ?_
  rotate_left
  · intro w'
    go_simp
    with_reducible rfl
  rotate_left
  · simp only [Act.put, List.setIfInBounds_toArray, List.set_cons_zero, List.set_cons_succ, i64_w, i32_w]
    rfl
  refine one_ (i := 2) (N := some 64) #[true, true, true, false, false, false, false, false, false, false, false, false, false, false, false, false, false, false, false, false, false, false, false, false, false, false, false, false, false, false, false, false, false, false, false, false, false, false, false, false, false, false, false, false, false] rfl rfl (by kernel_rfl) (by decide) (fun K hK => ?_)
  ((refine goes_ (f := 21) Tryd.func21 (by kernel_rfl) rfl #[.iface 40 (.pointer (some ⟨b, 0, none⟩)), .iface 42 (.pointer (some ⟨w5.heap.size, 0, none⟩))] (by first | rfl | kernel_rfl) rfl rfl (by (try simp only [List.map_toArray, List.map_cons, List.map_nil]); first | done | rfl) ?_); (with_reducible refine (asX w5 b HS.out.laid).mono ?_); rintro e' w' ⟨rfl, hc9, hb⟩; refine ⟨_, rfl, ?_⟩; have HC9 := Aside0.mk hc9; have c9 := hc9; have n0_ := Aside0.mk (HS.out.on hb); clear HS; have HS := n0_; clear n0_; clear hb hc9)
  refine hK.out _ _ (by obtain ⟨f0, f1, f2, f3, f4, f5, f6, f7⟩ := HS.out.cells; exact ⟨f0, f1, f2, f3, f4, f5, f6, f7, HC9.out⟩) (fun hHeld => ?_)
  clear hK K hHeld
  refine norm_ (a' := ?_) ?_ ?_
  rotate_left
  · show Act.put _ (some 64) _ = _
    simp only [Act.put, List.setIfInBounds_toArray, List.set_cons_zero, List.set_cons_succ, i64_w, i32_w]
    rfl
  refine pure_ (i := 3) (N := some 65) (v := ?_) (a' := ?_) #[true, true, true, true, false, false, false, false, false, false, false, false, false, false, false, false, false, false, false, false, false, false, false, false, false, false, false, false, false, false, false, false, false, false, false, false, false, false, false, false, false, false, false, false, false] rfl rfl (by kernel_rfl) (fun _ _ _ h => h) (Or.inl ⟨by rfl, ?_⟩) ?_ ?_
  rotate_left
  · intro w'
    go_simp
    with_reducible rfl
  rotate_left
  · simp only [Act.put, List.setIfInBounds_toArray, List.set_cons_zero, List.set_cons_succ, i64_w, i32_w]
    rfl
  refine take_ (i := 4) (N := some 66) (v := ?_) (a' := ?_) #[true, true, true, true, true, false, false, false, false, false, false, false, false, false, false, false, false, false, false, false, false, false, false, false, false, false, false, false, false, false, false, false, false, false, false, false, false, false, false, false, false, false, false, false, false] rfl rfl (by kernel_rfl) (fun _ _ _ h => h) (Or.inl ⟨by rfl, ?_⟩) (by obtain ⟨f0, f1, f2, f3, f4, f5, f6, f7⟩ := HS.out.cells; exact ⟨f0, f1, f2, f3, f4, f5, f6, f7, HC9.out⟩) ?_ ?_
  rotate_left
  · intro w' hSw
    (try dsimp only at hSw)
    go_simp
    try (with_reducible rfl)
  rotate_left
  · simp only [Act.put, List.setIfInBounds_toArray, List.set_cons_zero, List.set_cons_succ, i64_w, i32_w]
    rfl
  refine pure_ (i := 5) (N := some 67) (v := .bool true) (a' := ?_) #[true, true, true, true, true, true, false, false, false, false, false, false, false, false, false, false, false, false, false, false, false, false, false, false, false, false, false, false, false, false, false, false, false, false, false, false, false, false, false, false, false, false, false, false, false] rfl rfl (by kernel_rfl) (fun _ _ _ h => h) (Or.inl ⟨by rfl, ?_⟩) ?_ ?_
  · intro w'
    go_simp
    try (with_reducible rfl)
  rotate_left
  · simp only [Act.put, List.setIfInBounds_toArray, List.set_cons_zero, List.set_cons_succ, i64_w, i32_w]
    rfl
  refine pure_ (i := 6) (N := some 68) (v := ?_) (a' := ?_) #[true, true, true, true, true, true, true, false, false, false, false, false, false, false, false, false, false, false, false, false, false, false, false, false, false, false, false, false, false, false, false, false, false, false, false, false, false, false, false, false, false, false, false, false, false] rfl rfl (by kernel_rfl) (fun _ _ _ h => h) (Or.inl ⟨by rfl, ?_⟩) ?_ ?_
  rotate_left
  · intro w'
    go_simp
    with_reducible rfl
  rotate_left
  · simp only [Act.put, List.setIfInBounds_toArray, List.set_cons_zero, List.set_cons_succ, i64_w, i32_w]
    rfl
  refine pure_ (i := 7) (N := some 69) (v := ?_) (a' := ?_) #[true, true, true, true, true, true, true, true, false, false, false, false, false, false, false, false, false, false, false, false, false, false, false, false, false, false, false, false, false, false, false, false, false, false, false, false, false, false, false, false, false, false, false, false, false] rfl rfl (by kernel_rfl) (fun _ _ _ h => h) (Or.inl ⟨by rfl, ?_⟩) ?_ ?_
  rotate_left
  · intro w'
    go_simp
    with_reducible rfl
  rotate_left
  · simp only [Act.put, List.setIfInBounds_toArray, List.set_cons_zero, List.set_cons_succ, i64_w, i32_w]
    rfl
  refine take_ (i := 8) (N := some 70) (v := ?_) (a' := ?_) #[true, true, true, true, true, true, true, true, true, false, false, false, false, false, false, false, false, false, false, false, false, false, false, false, false, false, false, false, false, false, false, false, false, false, false, false, false, false, false, false, false, false, false, false, false] rfl rfl (by kernel_rfl) (fun _ _ _ h => h) (Or.inl ⟨by rfl, ?_⟩) (by obtain ⟨f0, f1, f2, f3, f4, f5, f6, f7⟩ := HS.out.cells; exact ⟨f0, f1, f2, f3, f4, f5, f6, f7, HC9.out⟩) ?_ ?_
  rotate_left
  · intro w' hSw
    (try dsimp only at hSw)
    go_simp
    try (with_reducible rfl)
  rotate_left
  · simp only [Act.put, List.setIfInBounds_toArray, List.set_cons_zero, List.set_cons_succ, i64_w, i32_w]
    rfl
  refine take_ (i := 10) (N := some 72) (v := ?_) (a' := ?_) #[true, true, true, true, true, true, true, true, true, false, true, false, false, false, false, false, false, false, false, false, false, false, false, false, false, false, false, false, false, false, false, false, false, false, false, false, false, false, false, false, false, false, false, false, false] rfl rfl (by kernel_rfl) (fun _ _ _ h => h) (Or.inl ⟨by rfl, ?_⟩) (by obtain ⟨f0, f1, f2, f3, f4, f5, f6, f7⟩ := HS.out.cells; exact ⟨f0, f1, f2, f3, f4, f5, f6, f7, HC9.out⟩) ?_ ?_
  rotate_left
  · intro w' hSw
    (try dsimp only at hSw)
    go_simp
    try (with_reducible rfl)
  rotate_left
  · simp only [Act.put, List.setIfInBounds_toArray, List.set_cons_zero, List.set_cons_succ, i64_w, i32_w]
    rfl
  refine one_ (i := 9) (N := some 71) #[true, true, true, true, true, true, true, true, true, true, true, false, false, false, false, false, false, false, false, false, false, false, false, false, false, false, false, false, false, false, false, false, false, false, false, false, false, false, false, false, false, false, false, false, false] rfl rfl (by kernel_rfl) (by decide) (fun K hK => ?_)
  ((refine goes_ (f := 22) Tryd.func22 (by kernel_rfl) rfl #[.pointer (some ⟨b, 0, none⟩)] (by first | rfl | kernel_rfl) rfl rfl (by (try simp only [List.map_toArray, List.map_cons, List.map_nil]); first | done | rfl) ?_); (with_reducible refine (errAt HS.out HI.out HBg.out HP1.out HT.out).mono ?_); rintro e' w' ⟨rfl, hb⟩; refine ⟨_, rfl, ?_⟩; have n0_ := Aside0.mk (HS.out.on hb); clear HS; have HS := n0_; clear n0_; have n9_ := Aside0.mk (cell_below hb HC9.out); clear HC9; have HC9 := n9_; clear n9_; have c9 := HC9.out; clear hb)
  refine hK.out _ _ (by obtain ⟨f0, f1, f2, f3, f4, f5, f6, f7⟩ := HS.out.cells; exact ⟨f0, f1, f2, f3, f4, f5, f6, f7, HC9.out⟩) (fun hHeld => ?_)
  clear hK K hHeld
  refine norm_ (a' := ?_) ?_ ?_
  rotate_left
  · show Act.put _ (some 71) _ = _
    simp only [Act.put, List.setIfInBounds_toArray, List.set_cons_zero, List.set_cons_succ, i64_w, i32_w]
    rfl
  refine one_ (i := 11) (N := some 73) #[true, true, true, true, true, true, true, true, true, true, true, true, false, false, false, false, false, false, false, false, false, false, false, false, false, false, false, false, false, false, false, false, false, false, false, false, false, false, false, false, false, false, false, false, false] rfl rfl (by kernel_rfl) (by decide) (fun K hK => ?_)
  ((refine goes_ (f := 23) Tryd.func23 (by kernel_rfl) rfl #[.agg #[.slice (some ⟨q2, o2, none⟩) m c2, .slice (some ⟨q3, o3, none⟩) m c3, .int .i64 e]] (by first | rfl | kernel_rfl) rfl rfl (by (try simp only [List.map_toArray, List.map_cons, List.map_nil]); first | done | rfl) ?_); (with_reducible refine (textAt HS.out HI.out HBg.out HP1.out HT.out HM.out HCc2.out HCc3.out).mono ?_); rintro e' w' ⟨rfl, hb⟩; refine ⟨_, rfl, ?_⟩; have n0_ := Aside0.mk (HS.out.on hb); clear HS; have HS := n0_; clear n0_; have n9_ := Aside0.mk (cell_below hb HC9.out); clear HC9; have HC9 := n9_; clear n9_; have c9 := HC9.out; clear hb)
  refine hK.out _ _ (by obtain ⟨f0, f1, f2, f3, f4, f5, f6, f7⟩ := HS.out.cells; exact ⟨f0, f1, f2, f3, f4, f5, f6, f7, HC9.out⟩) (fun hHeld => ?_)
  clear hK K hHeld
  refine norm_ (a' := ?_) ?_ ?_
  rotate_left
  · show Act.put _ (some 73) _ = _
    simp only [Act.put, List.setIfInBounds_toArray, List.set_cons_zero, List.set_cons_succ, i64_w, i32_w]
    rfl
  refine pure_ (i := 12) (N := some 74) (v := .bool true) (a' := ?_) #[true, true, true, true, true, true, true, true, true, true, true, true, true, false, false, false, false, false, false, false, false, false, false, false, false, false, false, false, false, false, false, false, false, false, false, false, false, false, false, false, false, false, false, false, false] rfl rfl (by kernel_rfl) (fun _ _ _ h => h) (Or.inl ⟨by rfl, ?_⟩) ?_ ?_
  · intro w'
    go_simp
    try (with_reducible rfl)
  rotate_left
  · simp only [Act.put, List.setIfInBounds_toArray, List.set_cons_zero, List.set_cons_succ, i64_w, i32_w]
    rfl
  refine pure_ (i := 13) (N := some 75) (v := ?_) (a' := ?_) #[true, true, true, true, true, true, true, true, true, true, true, true, true, true, false, false, false, false, false, false, false, false, false, false, false, false, false, false, false, false, false, false, false, false, false, false, false, false, false, false, false, false, false, false, false] rfl rfl (by kernel_rfl) (fun _ _ _ h => h) (Or.inl ⟨by rfl, ?_⟩) ?_ ?_
  rotate_left
  · intro w'
    go_simp
    with_reducible rfl
  rotate_left
  · simp only [Act.put, List.setIfInBounds_toArray, List.set_cons_zero, List.set_cons_succ, i64_w, i32_w]
    rfl
  refine pure_ (i := 14) (N := some 76) (v := ?_) (a' := ?_) #[true, true, true, true, true, true, true, true, true, true, true, true, true, true, true, false, false, false, false, false, false, false, false, false, false, false, false, false, false, false, false, false, false, false, false, false, false, false, false, false, false, false, false, false, false] rfl rfl (by kernel_rfl) (fun _ _ _ h => h) (Or.inl ⟨by rfl, ?_⟩) ?_ ?_
  rotate_left
  · intro w'
    go_simp
    with_reducible rfl
  rotate_left
  · simp only [Act.put, List.setIfInBounds_toArray, List.set_cons_zero, List.set_cons_succ, i64_w, i32_w]
    rfl
  refine take_ (i := 15) (N := some 77) (v := ?_) (a' := ?_) #[true, true, true, true, true, true, true, true, true, true, true, true, true, true, true, true, false, false, false, false, false, false, false, false, false, false, false, false, false, false, false, false, false, false, false, false, false, false, false, false, false, false, false, false, false] rfl rfl (by kernel_rfl) (fun _ _ _ h => h) (Or.inl ⟨by rfl, ?_⟩) (by obtain ⟨f0, f1, f2, f3, f4, f5, f6, f7⟩ := HS.out.cells; exact ⟨f0, f1, f2, f3, f4, f5, f6, f7, HC9.out⟩) ?_ ?_
  rotate_left
  · intro w' hSw
    (try dsimp only at hSw)
    go_simp
    try (with_reducible rfl)
  rotate_left
  · simp only [Act.put, List.setIfInBounds_toArray, List.set_cons_zero, List.set_cons_succ, i64_w, i32_w]
    rfl
  refine pure_ (i := 16) (N := some 78) (v := ?_) (a' := ?_) #[true, true, true, true, true, true, true, true, true, true, true, true, true, true, true, true, true, false, false, false, false, false, false, false, false, false, false, false, false, false, false, false, false, false, false, false, false, false, false, false, false, false, false, false, false] rfl rfl (by kernel_rfl) (fun _ _ _ h => h) (Or.inl ⟨by rfl, ?_⟩) ?_ ?_
  rotate_left
  · intro w'
    go_simp
    with_reducible rfl
  rotate_left
  · simp only [Act.put, List.setIfInBounds_toArray, List.set_cons_zero, List.set_cons_succ, i64_w, i32_w]
    rfl
  refine pure_ (i := 17) (N := some 79) (v := ?_) (a' := ?_) #[true, true, true, true, true, true, true, true, true, true, true, true, true, true, true, true, true, true, false, false, false, false, false, false, false, false, false, false, false, false, false, false, false, false, false, false, false, false, false, false, false, false, false, false, false] rfl rfl (by kernel_rfl) (fun _ _ _ h => h) (Or.inl ⟨by rfl, ?_⟩) ?_ ?_
  rotate_left
  · intro w'
    go_simp
    with_reducible rfl
  rotate_left
  · simp only [Act.put, List.setIfInBounds_toArray, List.set_cons_zero, List.set_cons_succ, i64_w, i32_w]
    rfl
  refine take_ (i := 18) (N := some 80) (v := ?_) (a' := ?_) #[true, true, true, true, true, true, true, true, true, true, true, true, true, true, true, true, true, true, true, false, false, false, false, false, false, false, false, false, false, false, false, false, false, false, false, false, false, false, false, false, false, false, false, false, false] rfl rfl (by kernel_rfl) (fun _ _ _ h => h) (Or.inl ⟨by rfl, ?_⟩) (by obtain ⟨f0, f1, f2, f3, f4, f5, f6, f7⟩ := HS.out.cells; exact ⟨f0, f1, f2, f3, f4, f5, f6, f7, HC9.out⟩) ?_ ?_
  rotate_left
  · intro w' hSw
    (try dsimp only at hSw)
    go_simp
    try (with_reducible rfl)
  rotate_left
  · simp only [Act.put, List.setIfInBounds_toArray, List.set_cons_zero, List.set_cons_succ, i64_w, i32_w]
    rfl
  refine pure_ (i := 19) (N := some 81) (v := ?_) (a' := ?_) #[true, true, true, true, true, true, true, true, true, true, true, true, true, true, true, true, true, true, true, true, false, false, false, false, false, false, false, false, false, false, false, false, false, false, false, false, false, false, false, false, false, false, false, false, false] rfl rfl (by kernel_rfl) (fun _ _ _ h => h) (Or.inl ⟨by rfl, ?_⟩) ?_ ?_
  rotate_left
  · intro w'
    go_simp
    with_reducible rfl
  rotate_left
  · simp only [Act.put, List.setIfInBounds_toArray, List.set_cons_zero, List.set_cons_succ, i64_w, i32_w]
    rfl
  refine take_ (i := 20) (N := some 82) (v := ?_) (a' := ?_) #[true, true, true, true, true, true, true, true, true, true, true, true, true, true, true, true, true, true, true, true, true, false, false, false, false, false, false, false, false, false, false, false, false, false, false, false, false, false, false, false, false, false, false, false, false] rfl rfl (by kernel_rfl) (fun _ _ _ h => h) (Or.inl ⟨by rfl, ?_⟩) (by obtain ⟨f0, f1, f2, f3, f4, f5, f6, f7⟩ := HS.out.cells; exact ⟨f0, f1, f2, f3, f4, f5, f6, f7, HC9.out⟩) ?_ ?_
  rotate_left
  · intro w' hSw
    (try dsimp only at hSw)
    go_simp
    try (with_reducible rfl)
  rotate_left
  · simp only [Act.put, List.setIfInBounds_toArray, List.set_cons_zero, List.set_cons_succ, i64_w, i32_w]
    rfl
  refine pure_ (i := 21) (N := some 83) (v := ?_) (a' := ?_) #[true, true, true, true, true, true, true, true, true, true, true, true, true, true, true, true, true, true, true, true, true, true, false, false, false, false, false, false, false, false, false, false, false, false, false, false, false, false, false, false, false, false, false, false, false] rfl rfl (by kernel_rfl) (fun _ _ _ h => h) (Or.inl ⟨by rfl, ?_⟩) ?_ ?_
  rotate_left
  · intro w'
    go_simp
    with_reducible rfl
  rotate_left
  · simp only [Act.put, List.setIfInBounds_toArray, List.set_cons_zero, List.set_cons_succ, i64_w, i32_w]
    rfl
  refine take_ (i := 22) (N := some 84) (v := ?_) (a' := ?_) #[true, true, true, true, true, true, true, true, true, true, true, true, true, true, true, true, true, true, true, true, true, true, true, false, false, false, false, false, false, false, false, false, false, false, false, false, false, false, false, false, false, false, false, false, false] rfl rfl (by kernel_rfl) (fun _ _ _ h => h) (Or.inl ⟨by rfl, ?_⟩) (by obtain ⟨f0, f1, f2, f3, f4, f5, f6, f7⟩ := HS.out.cells; exact ⟨f0, f1, f2, f3, f4, f5, f6, f7, HC9.out⟩) ?_ ?_
  rotate_left
  · intro w' hSw
    (try dsimp only at hSw)
    go_simp
    try (with_reducible rfl)
  rotate_left
  · simp only [Act.put, List.setIfInBounds_toArray, List.set_cons_zero, List.set_cons_succ, i64_w, i32_w]
    rfl
  refine pure_ (i := 23) (N := some 85) (v := .bool true) (a' := ?_) #[true, true, true, true, true, true, true, true, true, true, true, true, true, true, true, true, true, true, true, true, true, true, true, true, false, false, false, false, false, false, false, false, false, false, false, false, false, false, false, false, false, false, false, false, false] rfl rfl (by kernel_rfl) (fun _ _ _ h => h) (Or.inl ⟨by rfl, ?_⟩) ?_ ?_
  · intro w'
    go_simp
    try (with_reducible rfl)
  rotate_left
  · simp only [Act.put, List.setIfInBounds_toArray, List.set_cons_zero, List.set_cons_succ, i64_w, i32_w]
    rfl
  refine pure_ (i := 24) (N := some 86) (v := ?_) (a' := ?_) #[true, true, true, true, true, true, true, true, true, true, true, true, true, true, true, true, true, true, true, true, true, true, true, true, true, false, false, false, false, false, false, false, false, false, false, false, false, false, false, false, false, false, false, false, false] rfl rfl (by kernel_rfl) (fun _ _ _ h => h) (Or.inl ⟨by rfl, ?_⟩) ?_ ?_
  rotate_left
  · intro w'
    go_simp
    with_reducible rfl
  rotate_left
  · simp only [Act.put, List.setIfInBounds_toArray, List.set_cons_zero, List.set_cons_succ, i64_w, i32_w]
    rfl
  refine pure_ (i := 25) (N := some 87) (v := ?_) (a' := ?_) #[true, true, true, true, true, true, true, true, true, true, true, true, true, true, true, true, true, true, true, true, true, true, true, true, true, true, false, false, false, false, false, false, false, false, false, false, false, false, false, false, false, false, false, false, false] rfl rfl (by kernel_rfl) (fun _ _ _ h => h) (Or.inl ⟨by rfl, ?_⟩) ?_ ?_
  rotate_left
  · intro w'
    go_simp
    with_reducible rfl
  rotate_left
  · simp only [Act.put, List.setIfInBounds_toArray, List.set_cons_zero, List.set_cons_succ, i64_w, i32_w]
    rfl
  refine take_ (i := 26) (N := some 88) (v := ?_) (a' := ?_) #[true, true, true, true, true, true, true, true, true, true, true, true, true, true, true, true, true, true, true, true, true, true, true, true, true, true, true, false, false, false, false, false, false, false, false, false, false, false, false, false, false, false, false, false, false] rfl rfl (by kernel_rfl) (fun _ _ _ h => h) (Or.inl ⟨by rfl, ?_⟩) (by obtain ⟨f0, f1, f2, f3, f4, f5, f6, f7⟩ := HS.out.cells; exact ⟨f0, f1, f2, f3, f4, f5, f6, f7, HC9.out⟩) ?_ ?_
  rotate_left
  · intro w' hSw
    (try dsimp only at hSw)
    go_simp
    try (with_reducible rfl)
  rotate_left
  · simp only [Act.put, List.setIfInBounds_toArray, List.set_cons_zero, List.set_cons_succ, i64_w, i32_w]
    rfl
  refine pure_ (i := 27) (N := some 89) (v := ?_) (a' := ?_) #[true, true, true, true, true, true, true, true, true, true, true, true, true, true, true, true, true, true, true, true, true, true, true, true, true, true, true, true, false, false, false, false, false, false, false, false, false, false, false, false, false, false, false, false, false] rfl rfl (by kernel_rfl) (fun _ _ _ h => h) (Or.inl ⟨by rfl, ?_⟩) ?_ ?_
  rotate_left
  · intro w'
    go_simp
    with_reducible rfl
  rotate_left
  · simp only [Act.put, List.setIfInBounds_toArray, List.set_cons_zero, List.set_cons_succ, i64_w, i32_w]
    rfl
  refine pure_ (i := 28) (N := some 90) (v := ?_) (a' := ?_) #[true, true, true, true, true, true, true, true, true, true, true, true, true, true, true, true, true, true, true, true, true, true, true, true, true, true, true, true, true, false, false, false, false, false, false, false, false, false, false, false, false, false, false, false, false] rfl rfl (by kernel_rfl) (fun _ _ _ h => h) (Or.inl ⟨by rfl, ?_⟩) ?_ ?_
  rotate_left
  · intro w'
    go_simp
    with_reducible rfl
  rotate_left
  · simp only [Act.put, List.setIfInBounds_toArray, List.set_cons_zero, List.set_cons_succ, i64_w, i32_w]
    rfl
  refine take_ (i := 29) (N := some 91) (v := ?_) (a' := ?_) #[true, true, true, true, true, true, true, true, true, true, true, true, true, true, true, true, true, true, true, true, true, true, true, true, true, true, true, true, true, true, false, false, false, false, false, false, false, false, false, false, false, false, false, false, false] rfl rfl (by kernel_rfl) (fun _ _ _ h => h) (Or.inl ⟨by rfl, ?_⟩) (by obtain ⟨f0, f1, f2, f3, f4, f5, f6, f7⟩ := HS.out.cells; exact ⟨f0, f1, f2, f3, f4, f5, f6, f7, HC9.out⟩) ?_ ?_
  rotate_left
  · intro w' hSw
    (try dsimp only at hSw)
    go_simp
    try (with_reducible rfl)
  rotate_left
  · simp only [Act.put, List.setIfInBounds_toArray, List.set_cons_zero, List.set_cons_succ, i64_w, i32_w]
    rfl
  refine pure_ (i := 30) (N := some 92) (v := ?_) (a' := ?_) #[true, true, true, true, true, true, true, true, true, true, true, true, true, true, true, true, true, true, true, true, true, true, true, true, true, true, true, true, true, true, true, false, false, false, false, false, false, false, false, false, false, false, false, false, false] rfl rfl (by kernel_rfl) (fun _ _ _ h => h) (Or.inl ⟨by rfl, ?_⟩) ?_ ?_
  rotate_left
  · intro w'
    go_simp
    with_reducible rfl
  rotate_left
  · simp only [Act.put, List.setIfInBounds_toArray, List.set_cons_zero, List.set_cons_succ, i64_w, i32_w]
    rfl
  refine take_ (i := 31) (N := some 93) (v := ?_) (a' := ?_) #[true, true, true, true, true, true, true, true, true, true, true, true, true, true, true, true, true, true, true, true, true, true, true, true, true, true, true, true, true, true, true, true, false, false, false, false, false, false, false, false, false, false, false, false, false] rfl rfl (by kernel_rfl) (fun _ _ _ h => h) (Or.inl ⟨by rfl, ?_⟩) (by obtain ⟨f0, f1, f2, f3, f4, f5, f6, f7⟩ := HS.out.cells; exact ⟨f0, f1, f2, f3, f4, f5, f6, f7, HC9.out⟩) ?_ ?_
  rotate_left
  · intro w' hSw
    (try dsimp only at hSw)
    go_simp
    try (with_reducible rfl)
  rotate_left
  · simp only [Act.put, List.setIfInBounds_toArray, List.set_cons_zero, List.set_cons_succ, i64_w, i32_w]
    rfl
  refine pure_ (i := 32) (N := some 94) (v := ?_) (a' := ?_) #[true, true, true, true, true, true, true, true, true, true, true, true, true, true, true, true, true, true, true, true, true, true, true, true, true, true, true, true, true, true, true, true, true, false, false, false, false, false, false, false, false, false, false, false, false] rfl rfl (by kernel_rfl) (fun _ _ _ h => h) (Or.inl ⟨by rfl, ?_⟩) ?_ ?_
  rotate_left
  · intro w'
    go_simp
    with_reducible rfl
  rotate_left
  · simp only [Act.put, List.setIfInBounds_toArray, List.set_cons_zero, List.set_cons_succ, i64_w, i32_w]
    rfl
  refine take_ (i := 33) (N := some 95) (v := ?_) (a' := ?_) #[true, true, true, true, true, true, true, true, true, true, true, true, true, true, true, true, true, true, true, true, true, true, true, true, true, true, true, true, true, true, true, true, true, true, false, false, false, false, false, false, false, false, false, false, false] rfl rfl (by kernel_rfl) (fun _ _ _ h => h) (Or.inl ⟨by rfl, ?_⟩) (by obtain ⟨f0, f1, f2, f3, f4, f5, f6, f7⟩ := HS.out.cells; exact ⟨f0, f1, f2, f3, f4, f5, f6, f7, HC9.out⟩) ?_ ?_
  rotate_left
  · intro w' hSw
    (try dsimp only at hSw)
    go_simp
    try (with_reducible rfl)
  rotate_left
  · simp only [Act.put, List.setIfInBounds_toArray, List.set_cons_zero, List.set_cons_succ, i64_w, i32_w]
    rfl
  refine pure_ (i := 34) (N := some 96) (v := .bool true) (a' := ?_) #[true, true, true, true, true, true, true, true, true, true, true, true, true, true, true, true, true, true, true, true, true, true, true, true, true, true, true, true, true, true, true, true, true, true, true, false, false, false, false, false, false, false, false, false, false] rfl rfl (by kernel_rfl) (fun _ _ _ h => h) (Or.inl ⟨by rfl, ?_⟩) ?_ ?_
  · intro w'
    go_simp
    try (with_reducible rfl)
  rotate_left
  · simp only [Act.put, List.setIfInBounds_toArray, List.set_cons_zero, List.set_cons_succ, i64_w, i32_w]
    rfl
  refine pure_ (i := 35) (N := some 97) (v := ?_) (a' := ?_) #[true, true, true, true, true, true, true, true, true, true, true, true, true, true, true, true, true, true, true, true, true, true, true, true, true, true, true, true, true, true, true, true, true, true, true, true, false, false, false, false, false, false, false, false, false] rfl rfl (by kernel_rfl) (fun _ _ _ h => h) (Or.inl ⟨by rfl, ?_⟩) ?_ ?_
  rotate_left
  · intro w'
    go_simp
    with_reducible rfl
  rotate_left
  · simp only [Act.put, List.setIfInBounds_toArray, List.set_cons_zero, List.set_cons_succ, i64_w, i32_w]
    rfl
  refine pure_ (i := 36) (N := some 98) (v := ?_) (a' := ?_) #[true, true, true, true, true, true, true, true, true, true, true, true, true, true, true, true, true, true, true, true, true, true, true, true, true, true, true, true, true, true, true, true, true, true, true, true, true, false, false, false, false, false, false, false, false] rfl rfl (by kernel_rfl) (fun _ _ _ h => h) (Or.inl ⟨by rfl, ?_⟩) ?_ ?_
  rotate_left
  · intro w'
    go_simp
    with_reducible rfl
  rotate_left
  · simp only [Act.put, List.setIfInBounds_toArray, List.set_cons_zero, List.set_cons_succ, i64_w, i32_w]
    rfl
  refine take_ (i := 37) (N := some 99) (v := ?_) (a' := ?_) #[true, true, true, true, true, true, true, true, true, true, true, true, true, true, true, true, true, true, true, true, true, true, true, true, true, true, true, true, true, true, true, true, true, true, true, true, true, true, false, false, false, false, false, false, false] rfl rfl (by kernel_rfl) (fun _ _ _ h => h) (Or.inl ⟨by rfl, ?_⟩) (by obtain ⟨f0, f1, f2, f3, f4, f5, f6, f7⟩ := HS.out.cells; exact ⟨f0, f1, f2, f3, f4, f5, f6, f7, HC9.out⟩) ?_ ?_
  rotate_left
  · intro w' hSw
    (try dsimp only at hSw)
    go_simp
    try (with_reducible rfl)
  rotate_left
  · simp only [Act.put, List.setIfInBounds_toArray, List.set_cons_zero, List.set_cons_succ, i64_w, i32_w]
    rfl
  refine one_ (i := 38) (N := some 100) #[true, true, true, true, true, true, true, true, true, true, true, true, true, true, true, true, true, true, true, true, true, true, true, true, true, true, true, true, true, true, true, true, true, true, true, true, true, true, true, false, false, false, false, false, false] rfl rfl (by kernel_rfl) (by decide) (fun K hK => ?_)
  ((refine goes_ (f := 24) Tryd.func24 (by kernel_rfl) rfl #[.pointer (some ⟨b, 0, none⟩)] (by first | rfl | kernel_rfl) rfl rfl (by (try simp only [List.map_toArray, List.map_cons, List.map_nil]); first | done | rfl) ?_); (with_reducible refine (unwrapAt b _ _ HS.out.cv).mono ?_); rintro e' w' ⟨rfl, hb⟩; refine ⟨_, rfl, ?_⟩; have n0_ := Aside0.mk (HS.out.on hb); clear HS; have HS := n0_; clear n0_; have n9_ := Aside0.mk (cell_below hb HC9.out); clear HC9; have HC9 := n9_; clear n9_; have c9 := HC9.out; clear hb)
  refine hK.out _ _ (by obtain ⟨f0, f1, f2, f3, f4, f5, f6, f7⟩ := HS.out.cells; exact ⟨f0, f1, f2, f3, f4, f5, f6, f7, HC9.out⟩) (fun hHeld => ?_)
  clear hK K hHeld
  refine norm_ (a' := ?_) ?_ ?_
  rotate_left
  · show Act.put _ (some 100) _ = _
    simp only [Act.put, List.setIfInBounds_toArray, List.set_cons_zero, List.set_cons_succ, i64_w, i32_w]
    rfl
  refine pure_ (i := 39) (N := some 101) (v := .bool true) (a' := ?_) #[true, true, true, true, true, true, true, true, true, true, true, true, true, true, true, true, true, true, true, true, true, true, true, true, true, true, true, true, true, true, true, true, true, true, true, true, true, true, true, true, false, false, false, false, false] rfl rfl (by kernel_rfl) (fun _ _ _ h => h) (Or.inl ⟨by rfl, ?_⟩) ?_ ?_
  · intro w'
    go_simp
    try (with_reducible rfl)
  rotate_left
  · simp only [Act.put, List.setIfInBounds_toArray, List.set_cons_zero, List.set_cons_succ, i64_w, i32_w]
    rfl
  refine pure_ (i := 40) (N := some 102) (v := ?_) (a' := ?_) #[true, true, true, true, true, true, true, true, true, true, true, true, true, true, true, true, true, true, true, true, true, true, true, true, true, true, true, true, true, true, true, true, true, true, true, true, true, true, true, true, true, false, false, false, false] rfl rfl (by kernel_rfl) (fun _ _ _ h => h) (Or.inl ⟨by rfl, ?_⟩) ?_ ?_
  rotate_left
  · intro w'
    go_simp
    with_reducible rfl
  rotate_left
  · simp only [Act.put, List.setIfInBounds_toArray, List.set_cons_zero, List.set_cons_succ, i64_w, i32_w]
    rfl
  refine pure_ (i := 41) (N := some 103) (v := ?_) (a' := ?_) #[true, true, true, true, true, true, true, true, true, true, true, true, true, true, true, true, true, true, true, true, true, true, true, true, true, true, true, true, true, true, true, true, true, true, true, true, true, true, true, true, true, true, false, false, false] rfl rfl (by kernel_rfl) (fun _ _ _ h => h) (Or.inl ⟨by rfl, ?_⟩) ?_ ?_
  rotate_left
  · intro w'
    go_simp
    with_reducible rfl
  rotate_left
  · simp only [Act.put, List.setIfInBounds_toArray, List.set_cons_zero, List.set_cons_succ, i64_w, i32_w]
    rfl
  refine one_ (i := 42) (N := some 104) #[true, true, true, true, true, true, true, true, true, true, true, true, true, true, true, true, true, true, true, true, true, true, true, true, true, true, true, true, true, true, true, true, true, true, true, true, true, true, true, true, true, true, true, false, false] rfl rfl (by kernel_rfl) (by decide) (fun K hK => ?_)
  ((refine goes_ (f := 16) Tryd.func16 (by kernel_rfl) rfl #[] (by first | rfl | kernel_rfl) rfl rfl (by (try simp only [List.map_toArray, List.map_cons, List.map_nil]); first | done | rfl) ?_); (with_reducible refine (Q.alive.calls true _ HS.out.laid rfl).mono ?_); rintro e' w' ⟨rfl, hb⟩; refine ⟨_, rfl, ?_⟩; have n0_ := Aside0.mk (HS.out.on hb); clear HS; have HS := n0_; clear n0_; have n9_ := Aside0.mk (cell_below hb HC9.out); clear HC9; have HC9 := n9_; clear n9_; have c9 := HC9.out; clear hb)
  refine hK.out _ _ (by obtain ⟨f0, f1, f2, f3, f4, f5, f6, f7⟩ := HS.out.cells; exact ⟨f0, f1, f2, f3, f4, f5, f6, f7, HC9.out⟩) (fun hHeld => ?_)
  clear hK K hHeld
  refine norm_ (a' := ?_) ?_ ?_
  rotate_left
  · show Act.put _ (some 104) _ = _
    simp only [Act.put, List.setIfInBounds_toArray, List.set_cons_zero, List.set_cons_succ, i64_w, i32_w]
    rfl
  refine pure_ (i := 43) (N := some 105) (v := ?_) (a' := ?_) #[true, true, true, true, true, true, true, true, true, true, true, true, true, true, true, true, true, true, true, true, true, true, true, true, true, true, true, true, true, true, true, true, true, true, true, true, true, true, true, true, true, true, true, true, false] rfl rfl (by kernel_rfl) (fun _ _ _ h => h) (Or.inl ⟨by rfl, ?_⟩) ?_ ?_
  rotate_left
  · intro w'
    go_simp
    with_reducible rfl
  rotate_left
  · simp only [Act.put, List.setIfInBounds_toArray, List.set_cons_zero, List.set_cons_succ, i64_w, i32_w]
    rfl
  refine pure_ (i := 44) (N := some 6) (v := ?_) (a' := ?_) #[true, true, true, true, true, true, true, true, true, true, true, true, true, true, true, true, true, true, true, true, true, true, true, true, true, true, true, true, true, true, true, true, true, true, true, true, true, true, true, true, true, true, true, true, true] rfl rfl (by kernel_rfl) (fun _ _ _ h => h) (Or.inl ⟨by rfl, ?_⟩) ?_ ?_
  rotate_left
  · intro w'
    go_simp
    with_reducible rfl
  rotate_left
  · simp only [Act.put, List.setIfInBounds_toArray, List.set_cons_zero, List.set_cons_succ, i64_w, i32_w]
    rfl
  refine done_ (by kernel_rfl) ?_
  all_goals (try go_wp2)
  all_goals (try go_ret)
  all_goals (first | exact ⟨rfl, HS.out.below⟩ | trace_state)
end Go.Proofs.YtfmmmojlnfndkaaDoor.As

namespace Go.Proofs.YtfmmmojlnfndkaaDoor.Q
open Go.RowKit Go.Proofs.YtfmmmojlnfndkaaDoorW.PrintWords
def small (l : List ByteArray) : Bool := decide (l.length ≤ 1048576) && l.all fun x => decide (x.size ≤ 1048576)
theorem small_of {l : List ByteArray} (h : small l = true) : l.length ≤ 1048576 ∧ ∀ x ∈ l, x.size ≤ 1048576 := by
  unfold small at h
  simp only [Bool.and_eq_true, decide_eq_true_eq, List.all_eq_true] at h
  exact h
def pumicelaw04_FaultWraps.f (l0 l1 : List ByteArray) (a2 : Int) : Option Bool := if small l0 = true ∧ small l1 = true ∧ -9223372036854775808 ≤ a2 ∧ a2 ≤ 9223372036854775807 then some true else none
theorem pumicelaw04_FaultWraps.pure (l0 l1 : List ByteArray) (a2 : Int) (h0 : l0.length ≤ 1048576) (e0 : ∀ x ∈ l0, x.size ≤ 1048576) (h1 : l1.length ≤ 1048576) (e1 : ∀ x ∈ l1, x.size ≤ 1048576) (h : -9223372036854775808 ≤ a2 ∧ a2 ≤ 9223372036854775807) : pumicelaw04_FaultWraps.f l0 l1 a2 = some true := by
  unfold pumicelaw04_FaultWraps.f small
  rw [if_pos ⟨by simp only [Bool.and_eq_true, decide_eq_true_eq, List.all_eq_true]; exact ⟨h0, e0⟩, by simp only [Bool.and_eq_true, decide_eq_true_eq, List.all_eq_true]; exact ⟨h1, e1⟩, h.1, h.2⟩]
theorem pumicelaw04_FaultWraps.calls (A0 : Option Addr) (c0 : Nat) (l0 : List ByteArray) (A1 : Option Addr) (c1 : Nat) (l1 : List ByteArray) (a2 : Int) (r : Bool) (w : World) (hL : As.Laid w) (hr0 : Kd.C Kd.string w A0 l0.length l0) (_hc0 : l0.length ≤ c0) (hr1 : Kd.C Kd.string w A1 l1.length l1) (_hc1 : l1.length ≤ c1) (h : pumicelaw04_FaultWraps.f l0 l1 a2 = some r) :
    Calls Tryd.prog 5 #[.slice A0 l0.length c0, .slice A1 l1.length c1, .int .i64 a2] w fun e w' => e = .returned (.bool r) ∧ Below w.heap.size w w' := by
  unfold pumicelaw04_FaultWraps.f at h
  split at h
  · rename_i hh
    obtain rfl : true = r := Option.some.inj h
    have s0 := small_of hh.1
    have s1 := small_of hh.2.1
    by_cases he : a2 = 0
    · subst he; exact As.wraps0 A0 c0 l0 A1 c1 l1 w hL hr0 hr1 s0.1
    · rcases Nat.eq_zero_or_pos l0.length with hn | hn
      · exact As.wrapsN A0 c0 l0 A1 c1 l1 a2 w hL hr0 hr1 s0.1 s0.2 s1.2 he hn
      · exact As.wrapsE A0 c0 l0 A1 c1 l1 a2 w hL hr0 hr1 s0.1 s0.2 s1.2 he hn hh.2.2
  · cases h
end Go.Proofs.YtfmmmojlnfndkaaDoor.Q

namespace Go.Proofs.YtfmmmojlnfndkaaDoor.As
open Go.RowKit Go.ChangeShapes Go.WideShapes
def rowLaid : List (String × DataW Unit) := [("math/bits.deBruijn32tab", Rows.laid_math_bits_deBruijn32tab), ("math/bits.deBruijn64tab", Rows.laid_math_bits_deBruijn64tab), ("internal/strconv.uint64pow10", Rows.laid_internal_strconv_uint64pow10), ("errors.errorType", Rows.laid_errors_errorType)]
theorem et : Tryd.prog.globalNamed "errors.errorType" = some 0 := by kernel_rfl
theorem rt : (Tryd.prog.cutTypes.find? (·.1 == "internal/reflectlite.rtype")).map (·.2) = some 93 := by kernel_rfl
theorem typesSize : Tryd.prog.types.size = 153 := by kernel_rfl
theorem oneRow : ((List.range 153).filter fun t => Tryd.prog.rowNamed t [101, 114, 114, 111, 114]) = [32] := by kernel_rfl
theorem pow10_data : (Rows.laid_internal_strconv_uint64pow10 : DataW Unit) = Lib.tabData .u64 Lib.pow10Tab := by kernel_rfl
theorem laid_of_row {W : World} (h : laidMetH Tryd.prog rowLaid W) : Laid W := by
  have h' : laidMet Tryd.prog [("math/bits.deBruijn32tab", Rows.laid_math_bits_deBruijn32tab), ("math/bits.deBruijn64tab", Rows.laid_math_bits_deBruijn64tab), ("internal/strconv.uint64pow10", Rows.laid_internal_strconv_uint64pow10)] W ∧ handlesMet Tryd.prog [("errors.errorType", Rows.laid_errors_errorType)] W := h
  refine ⟨?_, ?_⟩
  · obtain ⟨name, u, ty, e1, e2, e3, e4, e5⟩ := h'.2 _ (List.mem_singleton.2 rfl)
    have en : name = [101, 114, 114, 111, 114] := (Option.some.inj e1).symm
    subst en
    obtain rfl := Option.some.inj (rt.symm.trans e2)
    have hm : ty ∈ (List.range 153).filter fun t => Tryd.prog.rowNamed t [101, 114, 114, 111, 114] := List.mem_filter.2 ⟨List.mem_range.2 (by rw [← typesSize]; exact e3), e4⟩
    rw [oneRow] at hm
    obtain rfl := List.mem_singleton.1 hm
    have hh : typeHandle Tryd.prog 32 = .pointer (some ⟨4, 32, none⟩) := by kernel_rfl
    rw [hh] at e5
    simpa using World.var?_cell et e5 0
  · have h3 := h'.1.tail.tail
    rw [pow10_data] at h3
    exact Lib.tabIs_of_head (t := 116) (e := 109) (n := 20) pow10_global (by kernel_rfl) Tryd.underlying116 Tryd.underlying109 (by kernel_rfl) (by kernel_rfl) h3
/-- A world that meets the condition: the settled one, the variables' cells laid. -/
noncomputable def laidWorld (os : Os) : World :=
  let w0 := World.holding Tryd.prog os ⟨#[], #[], []⟩
  { w0 with heap := (((w0.heap.modify 0 (fun | .cells _ t frozen => .cells (#[.iface 93 (.agg #[.pointer (some ⟨4, 32, none⟩)])]) t frozen | o => o)).modify 1 (fun | .cells _ t frozen => .cells (#[.int .u64 1, .int .u64 10, .int .u64 100, .int .u64 1000, .int .u64 10000, .int .u64 100000, .int .u64 1000000, .int .u64 10000000, .int .u64 100000000, .int .u64 1000000000, .int .u64 10000000000, .int .u64 100000000000, .int .u64 1000000000000, .int .u64 10000000000000, .int .u64 100000000000000, .int .u64 1000000000000000, .int .u64 10000000000000000, .int .u64 100000000000000000, .int .u64 1000000000000000000, .int .u64 10000000000000000000]) t frozen | o => o)).modify 2 (fun | .cells _ t frozen => .cells (#[.int .u8 0, .int .u8 1, .int .u8 28, .int .u8 2, .int .u8 29, .int .u8 14, .int .u8 24, .int .u8 3, .int .u8 30, .int .u8 22, .int .u8 20, .int .u8 15, .int .u8 25, .int .u8 17, .int .u8 4, .int .u8 8, .int .u8 31, .int .u8 27, .int .u8 13, .int .u8 23, .int .u8 21, .int .u8 19, .int .u8 16, .int .u8 7, .int .u8 26, .int .u8 12, .int .u8 18, .int .u8 6, .int .u8 11, .int .u8 5, .int .u8 10, .int .u8 9]) t frozen | o => o)).modify 3 (fun | .cells _ t frozen => .cells (#[.int .u8 0, .int .u8 1, .int .u8 56, .int .u8 2, .int .u8 57, .int .u8 49, .int .u8 28, .int .u8 3, .int .u8 61, .int .u8 58, .int .u8 42, .int .u8 50, .int .u8 38, .int .u8 29, .int .u8 17, .int .u8 4, .int .u8 62, .int .u8 47, .int .u8 59, .int .u8 36, .int .u8 45, .int .u8 43, .int .u8 51, .int .u8 22, .int .u8 53, .int .u8 39, .int .u8 33, .int .u8 30, .int .u8 24, .int .u8 18, .int .u8 12, .int .u8 5, .int .u8 63, .int .u8 55, .int .u8 48, .int .u8 27, .int .u8 60, .int .u8 41, .int .u8 37, .int .u8 16, .int .u8 46, .int .u8 35, .int .u8 44, .int .u8 21, .int .u8 52, .int .u8 32, .int .u8 23, .int .u8 11, .int .u8 54, .int .u8 26, .int .u8 40, .int .u8 15, .int .u8 34, .int .u8 20, .int .u8 31, .int .u8 10, .int .u8 25, .int .u8 14, .int .u8 19, .int .u8 9, .int .u8 13, .int .u8 8, .int .u8 7, .int .u8 6]) t frozen | o => o) }
theorem laidWorld_met (os : Os) (args : Array Value) : laidMetH Tryd.prog rowLaid ((laidWorld os).forCall (fun _ _ => 0) ⟨#[], args, []⟩).memory :=
  laidMetH_of_parts (laidMet_of_run' 8 (by kernel_rfl) (by kernel_rfl)) (by kernel_rfl)
end Go.Proofs.YtfmmmojlnfndkaaDoor.As

namespace Go.Proofs.YtfmmmojlnfndkaaDoor.faultWrapsUpto
open Go.ChangeShapes Go.WideShapes Go.ChangeAt Go.RowKit Go.Proofs.YtfmmmojlnfndkaaDoorW.PrintWords Go.Proofs.YtfmmmojlnfndkaaDoor.Q
open Go.ChangeMaps (open_string shut_string)
set_option linter.unusedVariables false
set_option linter.unusedSimpArgs false
theorem own : ownKnob Tryd.prog.godebug = none := by kernel_rfl
theorem laidOut : laidOutB Tryd.prog = true := by kernel_rfl
def dat9 {H : Type} : ByteArray → DataW H := fun x : ByteArray => (.lit (.string x.data.toList) : DataW H)
def ok9 (x : ByteArray) : Prop := x.size ≤ maxLen
theorem el9 {H : Type} {enc : TypeId × Value → H} {W : World} : ∀ fuel cs (x : DataW H × List MemPlace), DataW.trod enc Tryd.prog W 0 (fun _ => true) true fuel 9 cs = some x → ∃ a : ByteArray, Kd.K Kd.string W a cs ∧ x.1 = dat9 a ∧ ok9 a := by
  intro fuel cs x h
  obtain ⟨a, rfl, hx, hw⟩ := DataW.trod_string Tryd.underlying9 h
  exact ⟨a, rfl, by rw [hx]; rfl, hw⟩
theorem sz9 {H : Type} (x : ByteArray) (h : Rows.uptoBulk (dat9 (H := H) x) ≤ 1048576) : x.size ≤ 1048576 := by
  simp only [dat9, Rows.uptoBulk, Rows.uptoBulkAll, Array.length_toList] at h
  have q0 : x.size = x.data.size := rfl
  omega
set_option maxRecDepth 100000 in
set_option maxHeartbeats 1600000 in
theorem contract (H : Type) (enc : TypeId × Value → H) (F : Stop.Interp) (W : World) (base : Nat) (args : Array Value) (ds gs : List (DataW H)) (before : List MemPlace)
    (hval0 : ∀ (j : Nat) t v, Tryd.f5.params[j]? = some t → args[j]? = some v → Value.okWide Tryd.prog W .any base t v)
    (hW : DataW.Whole enc Tryd.prog Tryd.f5.params.toList (Rows.OpenSpec.upto Rows.faultWrapsSpec).vars false W args.toList ds gs before) (hk : Rows.uptoSmall H (ds ++ gs) = true) (hL : laidMetH Tryd.prog As.rowLaid W) :
    Calls Tryd.prog 5 args W fun e W' => ∃ v, e = .returned v ∧ ((Rows.OpenSpec.upto Rows.faultWrapsSpec).at F).post enc Tryd.prog Tryd.f5 false true false false W args v W' := by
  have hval : ∀ (j : Nat) t v, Tryd.f5.params[j]? = some t → args[j]? = some v → Value.okWide Tryd.prog W .any base t v := hval0
  have hW' := hW
  obtain ⟨p, q, hA0, hV, rfl, hfz, hnd⟩ := hW
  have hA : DataW.TrodAll enc Tryd.prog W 0 (fun _ => true) true Tryd.f5.params.toList args.toList ds p := hA0
  rw [Tryd.params5] at hA hval
  obtain ⟨v0, vs0, d0, ds0, p0, q0, hargs, rfl, rfl, h0, r0⟩ := trodAll_cons hA
  obtain ⟨v1, vs1, d1, ds1, p1, q1, rfl, rfl, rfl, h1, r1⟩ := trodAll_cons r0
  obtain ⟨v2, vs2, d2, ds2, p2, q2, rfl, rfl, rfl, h2, r2⟩ := trodAll_cons r1
  obtain ⟨rfl, rfl, rfl⟩ := trodAll_nil r2
  obtain rfl : args = #[v0, v1, v2] := by cases args; simp_all
  obtain ⟨rfl, rfl⟩ := trodVars_none hV
  have hk2 : Rows.uptoBulkAll [d0, d1, d2] ≤ 1048576 := by
    have hk1 := of_decide_eq_true hk
    simpa using hk1
  simp only [Rows.uptoBulkAll] at hk2
  have k0 := h0
  have lt0 : ∀ x ∈ p0, x.block < W.heap.size := by obtain ⟨m, hm⟩ := k0; exact DataW.trod_lt m _ _ _ hm
  obtain ⟨A0, l0, c0, sp0, rfl, hc0, hr0, hd0, o0⟩ := R0.slice_open Kd.string dat9 ok9 Tryd.underlying30 (by kernel_rfl) el9 (hval 0 30 v0 rfl rfl) h0
  have m0 : l0.length ≤ 1048576 := by
    rcases hd0 with ⟨hD, hl⟩ | hD
    · rw [hl]; simp
    · have q := hk2
      rw [hD] at q
      have q1 := bulks.slice_le (H := H) (l0.map dat9) sp0
      simp only [List.length_map] at q1
      omega
  have e0 : ∀ x ∈ l0, x.size ≤ 1048576 := by
    intro x hx
    rcases hd0 with ⟨hD, hl⟩ | hD
    · rw [hl] at hx; cases hx
    · have q := hk2
      rw [hD] at q
      have q1 := bulks.slice_elems (H := H) (l0.map dat9) sp0
      have q2 := bulks.part_le (List.mem_map_of_mem (f := dat9 (H := H)) hx)
      exact sz9 x (by omega)
  have k1 := h1
  have lt1 : ∀ x ∈ p1, x.block < W.heap.size := by obtain ⟨m, hm⟩ := k1; exact DataW.trod_lt m _ _ _ hm
  obtain ⟨A1, l1, c1, sp1, rfl, hc1, hr1, hd1, o1⟩ := R0.slice_open Kd.string dat9 ok9 Tryd.underlying30 (by kernel_rfl) el9 (hval 1 30 v1 rfl rfl) h1
  have m1 : l1.length ≤ 1048576 := by
    rcases hd1 with ⟨hD, hl⟩ | hD
    · rw [hl]; simp
    · have q := hk2
      rw [hD] at q
      have q1 := bulks.slice_le (H := H) (l1.map dat9) sp1
      simp only [List.length_map] at q1
      omega
  have e1 : ∀ x ∈ l1, x.size ≤ 1048576 := by
    intro x hx
    rcases hd1 with ⟨hD, hl⟩ | hD
    · rw [hl] at hx; cases hx
    · have q := hk2
      rw [hD] at q
      have q1 := bulks.slice_elems (H := H) (l1.map dat9) sp1
      have q2 := bulks.part_le (List.mem_map_of_mem (f := dat9 (H := H)) hx)
      exact sz9 x (by omega)
  have k2 := h2
  have lt2 : ∀ x ∈ p2, x.block < W.heap.size := by obtain ⟨m, hm⟩ := k2; exact DataW.trod_lt m _ _ _ hm
  obtain ⟨a2, rfl, rfl, rfl, w2⟩ := open_int Tryd.underlying22 (hval 2 22 v2 rfl rfl) h2
  clear hA0 hval0
  have hpure := Q.pumicelaw04_FaultWraps.pure l0 l1 a2 m0 e0 m1 e1 (Q.wf64 w2)
  refine (Q.pumicelaw04_FaultWraps.calls _ _ l0 _ _ l1 a2 true W (As.laid_of_row hL) hr0 hc0 hr1 hc1 hpure).mono fun e W' ⟨he, bel0⟩ => ?_
  have bel : Below W.heap.size W W' := bel0
  subst he
  exact ⟨_, rfl, _, _, _, [], _, [], hW', trodAll_mk1 (shut_bool Tryd.underlying4 _), (trodAll_cons_mk (Below.trod laidOut (by kernel_rfl) (of_decide_eq_true (by kernel_rfl)) k0 bel lt0) (trodAll_cons_mk (Below.trod laidOut (by kernel_rfl) (of_decide_eq_true (by kernel_rfl)) k1 bel lt1) (trodAll_cons_mk (Below.trod laidOut (by kernel_rfl) (of_decide_eq_true (by kernel_rfl)) k2 bel lt2) trodAll_mk0))), rfl, bel.frame _, fun h => by cases h⟩
theorem reads (os : Os) {H : Type} (enc : TypeId × Value → H) : ∃ places, DataW.whole enc Tryd.prog ((As.laidWorld os).forCall (fun _ _ => 0) ⟨#[], #[.slice none 0 0, .slice none 0 0, .int .i64 0], []⟩).memory Tryd.f5.params.toList (Rows.OpenSpec.upto Rows.faultWrapsSpec).vars false (#[.slice none 0 0, .slice none 0 0, .int .i64 0] : Array Value).toList 8 = some ([.nil, .nil, .lit (.int .i64 0)], [], places) := ⟨[], by kernel_rfl⟩
set_option maxRecDepth 100000 in
theorem lifted (os : Os) (started : os.Started) (H : Type) (enc : TypeId × Value → H) (F : Stop.Interp) :
    ReturnsInHanded {} Tryd.checked os 5 .any ((Rows.OpenSpec.upto Rows.faultWrapsSpec).preRow enc Tryd.prog Tryd.f5 Rows.faultWrapsUptoRow.domain false Rows.faultWrapsUptoRow.laid) (((Rows.OpenSpec.upto Rows.faultWrapsSpec).at F).post enc Tryd.prog Tryd.f5 false true false false) := by
  obtain ⟨places, hx⟩ := reads os enc
  refine returnsInHanded_of_row (C := Tryd.checked) (s := Rows.OpenSpec.upto Rows.faultWrapsSpec) own started (by kernel_rfl) Tryd.func5
    (witness_row_at (enc := enc) (C := Tryd.checked) false (As.laidWorld os) #[.slice none 0 0, .slice none 0 0, .int .i64 0] rfl (by kernel_rfl) (by kernel_rfl) (by kernel_rfl)
      (OpenSpec.preRow_of_cond 8 hx (by kernel_rfl) (fun k hk => by cases hk; kernel_rfl) (by kernel_rfl) (As.laidWorld_met os _))) ?_
  intro W base args ds gs before hval hW _ hcond _ hL _ _
  exact contract H enc F W base args ds gs before hval hW (hcond _ rfl) hL
theorem over : Rows.faultWrapsUptoRow.holds Tryd.pinned (Rows.OpenSpec.upto Rows.faultWrapsSpec) :=
  OpenClaim.holds_of_cond 5 Tryd.f5 rfl rfl rfl rfl rfl rfl rfl ⟨rfl, rfl, rfl, rfl, rfl⟩ rfl rfl rfl rfl rfl (by kernel_rfl) Tryd.func5 (by kernel_rfl)
    (of_decide_eq_true (by kernel_rfl)) (by unfold Func.isWrapper; first | (rw [if_pos (by decide +kernel)]; kernel_rfl) | (rw [if_neg (by decide +kernel)]; exact ⟨rfl, rfl⟩))
    (fun os started H enc _ F => by rw [OpenClaim.pre_eq_preRow]; exact lifted os started H enc F)
theorem card : Rows.FaultWrapsUptoCardSaid :=
  Claim7.holds_tied_plain_at .later [] [.data, .data, .data, .handle] true (true, "9d8196f7cc97b7448d9ef7d75e0a15bf449698181877602f1c23428d3cc8f97c") true
    over (fun _ h => by cases h) (by kernel_rfl) (fun _ h => by cases h) faultWrapsUpto_row_tie rfl ⟨rfl, rfl⟩ (by kernel_rfl) rfl
    (fun f fn hf hfn => by
      obtain rfl : f = 5 := Option.some.inj ((show Tryd.prog.funcNamed "pumice/pumicelaw04.FaultWraps" = some 5 by kernel_rfl).symm.trans hf) |>.symm
      obtain rfl : fn = Tryd.f5 := (Option.some.inj (Tryd.func5.symm.trans hfn)).symm
      exact ⟨by kernel_rfl, fun j t ht => by
        rw [Tryd.params5] at ht
        have hm := Array.mem_of_getElem? ht
        simp only [List.mem_toArray, List.mem_cons, List.not_mem_nil, or_false] at hm
        rcases hm with rfl | rfl | rfl
        · exact (show Tryd.prog.wantsStandIn 30 = false by kernel_rfl)
        · exact (show Tryd.prog.wantsStandIn 30 = false by kernel_rfl)
        · exact (show Tryd.prog.wantsStandIn 22 = false by kernel_rfl)⟩)
    (by kernel_rfl)
end Go.Proofs.YtfmmmojlnfndkaaDoor.faultWrapsUpto
namespace Go.Proofs.YtfmmmojlnfndkaaDoor
/-- The row. -/
theorem faultWrapsUpto_holds : Rows.FaultWrapsUptoCardSaid := faultWrapsUpto.card
#print axioms faultWrapsUpto_holds
end Go.Proofs.YtfmmmojlnfndkaaDoor
