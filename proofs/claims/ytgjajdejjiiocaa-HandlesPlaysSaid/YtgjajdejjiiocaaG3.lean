/- Stands: both tables have the same. -/
import Derived.Test.YtgjajdejjiiocaaH14
import Derived.Test.YtgjajdejjiiocaaK0
import Derived.Test.YtgjajdejjiiocaaA2
namespace Go.Proofs.Ytgjajdejjiiocaa.Q
open Go.RowKit Go.Proofs.YtgjajdejjiiocaaW.PrintWords Go.Proofs.YtgjajdejjiiocaaW.PrintLast Go.Proofs.Ytgjajdejjiiocaa.Sep
set_option linter.unusedVariables false
set_option linter.unusedSimpArgs false
set_option maxHeartbeats 4000000 in
set_option maxRecDepth 100000 in
theorem stands_calls {w : World} {B t d lb : Nat} {as_ : List (Option Nat)} {S : List (Option Fl)} (hT : Tab w B t as_ S) (hD : Dab w B d lb S) (hB : B ≤ w.heap.size) : Calls Try.prog 21 #[.pointer (some ⟨t, 0, none⟩), .pointer (some ⟨d, 0, none⟩)] w (RetPost w (.bool true)) := by
  have HT := Aside0.mk hT
  have HD := Aside0.mk hD
  have hlen : (numsTo S 32).length ≤ 32 := numsTo_len S 32
  clear hT hD
  go_enter Try.func21, Try.ntmps21
  go_wp2_with fail
  refine (numbers_calls HT.out hB).mono ?_
  rintro e w1 ⟨v, rfl, hr, hb⟩
  obtain ⟨A, c, rfl⟩ := Kd.R_slice hr
  have HR := Aside0.mk hr
  have HB1 := Aside0.mk hb
  have hB1 : B ≤ w1.heap.size := Nat.le_trans hB hb.size
  have HD1 := Aside0.mk (HD.out.below hb hB)
  have HT1 := Aside0.mk (HT.out.below hb hB)
  clear hr hb HT HD
  go_wp2_with fail
  refine (Dnumbers_calls HD1.out hB1).mono ?_
  rintro e w2 ⟨v, rfl, hr, hb⟩
  obtain ⟨A2, c2, rfl⟩ := Kd.R_slice hr
  have HR2 := Aside0.mk (row_at hr).2
  have HR1 := Aside0.mk (row_at (Kd.R_below HR.out hb)).2
  have HB2 := Aside0.mk (bt HB1.out hb)
  have hB2 : B ≤ w2.heap.size := Nat.le_trans hB1 hb.size
  have HD2 := Aside0.mk (HD1.out.below hb hB1)
  have HT2 := Aside0.mk (HT1.out.below hb hB1)
  clear hr hb HT1 HD1 HR HB1
  generalize numsTo S 32 = l at *
  go_wp2
  go_loopw [7] (fun i wr => ∃ k : Nat, k ≤ l.length ∧ i = .int .i64 k ∧ Aside0 (Below w2.heap.size w2 wr)) (fun i _ => l.length - (intOf i).toNat)
  case atStart => exact ⟨0, by omega, rfl, ⟨Below.refl _ _⟩⟩
  case round =>
    obtain ⟨k, hk, rfl, HW⟩ := hrel
    have hBr : B ≤ wr.heap.size := Nat.le_trans hB2 HW.out.size
    by_cases hlt : k < l.length
    · obtain ⟨x, hx⟩ : ∃ x, l[k]? = some x := ⟨_, List.getElem?_eq_getElem hlt⟩
      obtain ⟨b1, off1, h1⟩ := HR1.out
      obtain ⟨rfl, c1⟩ := h1 k x hx
      obtain ⟨b2, off2, h2⟩ := HR2.out
      obtain ⟨rfl, c2'⟩ := h2 k x hx
      have hb1 := World.block_lt_of_cell? w2 _ c1
      have hb2 := World.block_lt_of_cell? w2 _ c2'
      have y1 := (HW.out.cell (p := ⟨b1, off1 + k, none⟩) hb1).trans c1
      have y2 := Aside0.mk ((HW.out.cell (p := ⟨b2, off2 + k, none⟩) hb2).trans c2')
      have HDr := Aside0.mk (HD2.out.below HW.out hB2)
      have HTr := Aside0.mk (HT2.out.below HW.out hB2)
      clear h1 h2 hx
      obtain ⟨⟨f0, f1, f2⟩, q, hg⟩ : ∃ f q, getS S x = (f, q) := ⟨_, _, rfl⟩
      have G1 := Get_calls x HTr.out
      rw [hg] at G1
      have HG1 := Aside0.mk G1
      clear G1
      have i0 : (0 : Int) ≤ (k : Int) := by omega
      have i1 : (k : Int) < (l.length : Int) := by omega
      go_wp2_with fail
      refine HG1.out.mono ?_
      rintro e w3 ⟨rfl, hb3⟩
      have hB3 : B ≤ w3.heap.size := Nat.le_trans hBr hb3.size
      have HD3 := Aside0.mk ((HDr.out.below hb3 hBr).below (W_below w3 (Cl (fcells (f0, f1, f2)) 44)) hB3)
      have HW3 := Aside0.mk ((bt HW.out hb3).trans (W_below2 w3 (Cl (fcells (f0, f1, f2)) 44) (bt HW.out hb3).size))
      have HN3 := Aside0.mk (heap_new w3 (Cl (fcells (f0, f1, f2)) 44))
      have z2 := (HW3.out.cell (p := ⟨b2, off2 + k, none⟩) hb2).trans c2'
      clear hb3 HG1 HDr HTr y1 y2
      have G2 := DGet_calls x HD3.out
      rw [hg] at G2
      have HG2 := Aside0.mk G2
      clear G2
      unfold fcells at HD3 HW3 HN3 z2 HG2
      unfold aggF fcells
      go_wp2_with fail
      refine HG2.out.mono ?_
      rintro e w4 ⟨rfl, hb4⟩
      have HW4 := Aside0.mk ((bt HW3.out hb4).trans (W_below2 w4 (Cl (fcells (f0, f1, f2)) 59) (bt HW3.out hb4).size))
      have HN4 := Aside0.mk (heap_old (Cl (fcells (f0, f1, f2)) 59) ((hb4.block _ (Only.lt HN3.out)).trans HN3.out))
      have HM4 := Aside0.mk (heap_new w4 (Cl (fcells (f0, f1, f2)) 59))
      have s1 := (HW4.out.cell (p := ⟨b1, off1 + k, none⟩) hb1).trans c1
      have s2 := (HW4.out.cell (p := ⟨b2, off2 + k, none⟩) hb2).trans c2'
      have n0 := cell_of HN4.out (i := 0) rfl
      have n1 := cell_of HN4.out (i := 1) rfl
      have n2 := cell_of HN4.out (i := 2) rfl
      have m0 := cell_of HM4.out (i := 0) rfl
      have m1 := cell_of HM4.out (i := 1) rfl
      have m2 := cell_of HM4.out (i := 2) rfl
      clear hb4 HG2 HW3 HN3 HN4 HM4 z2 c1 c2' HD3
      unfold fcells at HW4 s1 s2 n0 n1 n2 m0 m1 m2
      unfold aggF fcells
      go_wp2
      go_quiet (fail)
      go_wp2
      go_roundw
      case rel => exact ⟨k + 1, by omega, by go_num, ⟨pw_below_drewN HW4.out _⟩⟩
      case measure => simp [intOf]; omega
    · obtain rfl : k = l.length := by omega
      have HDr := Aside0.mk (HD2.out.below HW.out hB2)
      have HTr := Aside0.mk (HT2.out.below HW.out hB2)
      obtain ⟨⟨f0, f1, f2⟩, q, hg⟩ : ∃ f q, getS S (l.length : Int) = (f, q) := ⟨_, _, rfl⟩
      have G1 := Get_calls (l.length : Int) HTr.out
      rw [hg] at G1
      have HG1 := Aside0.mk G1
      clear G1
      go_wp2_with fail
      refine HG1.out.mono ?_
      rintro e w3 ⟨rfl, hb3⟩
      have hB3 : B ≤ w3.heap.size := Nat.le_trans hBr hb3.size
      have HD3 := Aside0.mk ((HDr.out.below hb3 hBr).below (W_below w3 (Cl (fcells (f0, f1, f2)) 44)) hB3)
      have HW3 := Aside0.mk ((bt HW.out hb3).trans (W_below2 w3 (Cl (fcells (f0, f1, f2)) 44) (bt HW.out hb3).size))
      clear hb3 HG1 HDr HTr
      have G2 := DGet_calls (l.length : Int) HD3.out
      rw [hg] at G2
      have HG2 := Aside0.mk G2
      clear G2 hg
      unfold fcells at HD3 HW3 HG2
      unfold aggF fcells
      go_wp2_with fail
      refine HG2.out.mono ?_
      rintro e w4 ⟨rfl, hb4⟩
      have HW4 := Aside0.mk (bt HB2.out ((bt HW3.out hb4).trans (W_below2 w4 (Cl (fcells (f0, f1, f2)) 59) (bt HW3.out hb4).size)))
      clear hb4 HG2 HW3 HD3
      unfold fcells at HW4
      unfold aggF fcells
      go_wp2
      go_ret
      exact ⟨rfl, HW4.out⟩
end Go.Proofs.Ytgjajdejjiiocaa.Q
