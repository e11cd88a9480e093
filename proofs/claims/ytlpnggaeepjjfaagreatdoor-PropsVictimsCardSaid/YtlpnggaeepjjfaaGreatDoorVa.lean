/- PropsVictims: the victims are the closed blocks of that use with bytes that are not needed, those with more of them first, and all of these; for every n, size, list of calls and use. -/
import Derived.Test.YtlpnggaeepjjfaaGreatDoorRows
import Derived.Test.YtlpnggaeepjjfaaGreatDoorTie
import Derived.Test.YtlpnggaeepjjfaaGreatDoorCards
import Derived.WalkKit
import Derived.ProofKit
import Derived.OpenShut
import Derived.ShutString
import Derived.ChangeOld
import Derived.Below
import Derived.SizedLaws
import Derived.JoinedCond
import Derived.Deep.CondSized
import Derived.ChangeVars
import Derived.JoinedOf
import Derived.LaidLaws
import Derived.LaidHandle
import Derived.Stop.Joined
import Derived.Deep.DeepHandedRow
import Derived.SevenTiedAt
import Derived.Test.YtlpnggaeepjjfaaGreatDoorKa
import Derived.Test.YtlpnggaeepjjfaaGreatDoorKb
import Derived.Test.YtlpnggaeepjjfaaGreatDoorKc
import Derived.Test.YtlpnggaeepjjfaaGreatDoorKd
import Derived.Test.YtlpnggaeepjjfaaGreatDoorKe
import Derived.Test.YtlpnggaeepjjfaaGreatDoorKf
namespace Go.Proofs.YtlpnggaeepjjfaaGreatDoor.Bo
open Go.RowKit Go.Sort Go.Proofs.YtlpnggaeepjjfaaGreatDoorW.PrintWords Go.Proofs.YtlpnggaeepjjfaaGreatDoorW.PrintLast Go.Proofs.YtlpnggaeepjjfaaGreatDoor.Cut Go.Proofs.YtlpnggaeepjjfaaGreatDoor.Q
set_option linter.unusedVariables false
set_option linter.unusedSimpArgs false
def isV (use : Int) (x : Rw) : Prop := x.use = use ∧ 0 < x.use ∧ x.closed = true ∧ x.live < x.used
instance (use : Int) (x : Rw) : Decidable (isV use x) := inferInstanceAs (Decidable (_ ∧ _))
def vcK (use : Int) (L : List Rw) : Nat → Int
  | 0 => 0
  | k + 1 => vcK use L k + if isV use (L.getD k zRw) then 1 else 0
theorem vc_range (use : Int) (L : List Rw) : ∀ k, 0 ≤ vcK use L k ∧ vcK use L k ≤ k
  | 0 => by simp [vcK]
  | k + 1 => by
    have := vc_range use L k
    rw [vcK]
    split <;> omega
theorem vc_len {size : Int} {L : List Rw} (hO : Ok size L) (use : Int) : ((vicR use L).length : Int) = vcK use L L.length := by
  have h1 : (vicR use L).length = ((onR use L).filter (badN L)).length := by unfold vicR sortN; rw [List.length_mergeSort]
  rw [h1]
  by_cases hu : use < 1 ∨ 3 < use
  · rw [onR_out hO use hu]
    have : ∀ k, k ≤ L.length → vcK use L k = 0 := by
      intro k
      induction k with
      | zero => intro _; rfl
      | succ k ih =>
        intro hk
        have hr := hO.rows _ (getD_mem (show k < L.length by omega))
        rw [vcK, ih (by omega), if_neg (fun h => by unfold isV at h; omega)]
        rfl
    rw [this _ (Nat.le_refl _)]
    rfl
  · unfold onR
    rw [if_neg (by omega)]
    have : ∀ k, (((onK use L k).filter (badN L)).length : Int) = vcK use L k := by
      intro k
      induction k with
      | zero => rfl
      | succ k ih =>
        rw [onK, List.filter_append, List.length_append, vcK]
        by_cases hx : (L.getD k zRw).use = use
        · rw [if_pos hx]
          have hb : badN L k = true ↔ isV use (L.getD k zRw) := by
            unfold badN isV dirtyOf
            rw [Bool.and_eq_true, decide_eq_true_eq]
            constructor
            · rintro ⟨h, h2⟩; exact ⟨hx, by omega, h, by omega⟩
            · rintro ⟨_, _, h, h2⟩; exact ⟨h, by omega⟩
          by_cases hv : isV use (L.getD k zRw)
          · rw [if_pos hv, List.filter_cons, if_pos (hb.2 hv)]
            simp
            exact ih
          · rw [if_neg hv, List.filter_cons, if_neg (fun h => hv (hb.1 h))]
            simp
            exact ih
        · rw [if_neg hx, if_neg (fun h => hx h.1)]
          simp
          exact ih
    exact this _
theorem vic_mem {L : List Rw} {use : Int} {x : Nat} (h : x ∈ vicR use L) : x < L.length ∧ (L.getD x zRw).use = use ∧ (L.getD x zRw).closed = true ∧ (L.getD x zRw).live < (L.getD x zRw).used := by
  unfold vicR sortN at h
  rw [List.mem_mergeSort] at h
  obtain ⟨h1, h2⟩ := List.mem_filter.1 h
  have h3 : ∀ k, ∀ y ∈ onK use L k, (L.getD y zRw).use = use := by
    intro k
    induction k with
    | zero => intro y hy; simp [onK] at hy
    | succ k ih =>
      intro y hy
      rw [onK] at hy
      rcases List.mem_append.1 hy with hy | hy
      · exact ih y hy
      · split at hy
        · rename_i hu; rw [List.mem_singleton] at hy; subst hy; exact hu
        · simp at hy
  have h4 : (L.getD x zRw).use = use := by
    unfold onR at h1
    split at h1
    · simp at h1
    · exact h3 _ x h1
  unfold badN dirtyOf at h2
  rw [Bool.and_eq_true, decide_eq_true_eq] at h2
  exact ⟨onR_lt use L x h1, h4, h2.1, by omega⟩
theorem vic_ord (L : List Rw) (use : Int) {i : Nat} (h : i + 1 < (vicR use L).length) : Ah L ((vicR use L).getD i 0) ((vicR use L).getD (i + 1) 0) := by
  have hp := sortN_pair L ((onR use L).filter (badN L)) (List.Pairwise.filter _ ((onR_asc use L).imp fun h => by omega))
  have := List.pairwise_iff_getElem.1 hp i (i + 1) (by exact Nat.lt_of_succ_lt h) h (Nat.lt_succ_self _)
  rw [List.getD_eq_getElem?_getD, List.getD_eq_getElem?_getD, List.getElem?_eq_getElem h, List.getElem?_eq_getElem (Nat.lt_of_succ_lt h)]
  exact this
theorem i64_small {n : Int} (h0 : -9223372036854775808 ≤ n) (h1 : n < 9223372036854775808) : IntKind.i64.wrap n = n := by rw [i64_w]; exact w64 h0 h1
set_option maxRecDepth 100000 in
set_option maxHeartbeats 2000000 in
theorem victims_walk (a0 a1 : Int) (A2 : Option Addr) (c2 : Nat) (l2_ : List S24) (use : Int) (w : World) (hL : Lw w) (hr2 : Kd.C k24 w A2 l2_.length l2_) (hc2 : l2_.length ≤ c2) (hl : l2_.length ≤ 8796093022208) :
    Calls Tryz.prog 4 #[.int .i64 a0, .int .i64 a1, .slice A2 l2_.length c2, .int .i64 use] w fun e w' => e = .returned (.bool true) ∧ Below w.heap.size w w' := by
  have HL := Aside0.mk hL
  by_cases hbad : badNew a0 a1
  · have HM := Aside0.mk (made_bad hbad A2 c2 l2_ _ hr2 hc2 hl)
    clear hL hr2 hbad
    go_enter Tryz.func4, Tryz.ntmps4
    go_wp2_with (first | (go_at_call 9; (with_reducible refine HM.out.mono ?_); rintro e w1 ⟨rfl, hb⟩; have HB1 := Aside0.mk hb; clear hb) | (go_at_call 10; (with_reducible refine (alive_calls _ (HL.out.on HB1.out)).mono ?_); rintro e w9 ⟨rfl, hb9⟩; have HB9 := Aside0.mk (btr HB1.out hb9); clear hb9))
    go_ret
    exact ⟨rfl, HB9.out⟩
  · have HM := Aside0.mk (made_ok hbad A2 c2 l2_ _ hr2 hc2 hl)
    clear hL hr2 hbad
    go_enter Tryz.func4, Tryz.ntmps4
    go_upto_region 2 with (go_at_call 9; (with_reducible refine HM.out.mono ?_); rintro e w1 ⟨b, q, L, rfl, hb, hO, hn, hS, h1, h2⟩; have HB1 := Aside0.mk hb; have HO := Aside0.mk hO; have HS1 := Aside0.mk hS; have HNn := Aside0.mk hn; clear hb hO hS h1 h2)
    obtain ⟨M, hM⟩ : ∃ M, L.length = M := ⟨_, rfl⟩
    have h256 : M ≤ 256 := by rw [← hM]; exact HO.out.ok.len
    rw [hM] at hn
    subst hn
    have HMM := Aside0.mk hM
    clear hM
    have HVi := Aside0.mk (victims_calls HS1.out HO.out.ok use)
    have hvl := vc_len HO.out.ok use
    rw [HMM.out] at hvl
    have hvr := vc_range use L M
    have HMem := Aside0.mk (show ∀ k, k < (vicR use L).length → (vicR use L).getD k 0 ∈ vicR use L from fun k hk => by rw [List.getD_eq_getElem?_getD, List.getElem?_eq_getElem hk]; exact List.getElem_mem _)
    have HOrd := Aside0.mk (show ∀ i, i + 1 < (vicR use L).length → Ah L ((vicR use L).getD i 0) ((vicR use L).getD (i + 1) 0) from fun i h => vic_ord L use h)
    have HVm := Aside0.mk (show ∀ x, x ∈ vicR use L → x < L.length ∧ (L.getD x zRw).use = use ∧ (L.getD x zRw).closed = true ∧ (L.getD x zRw).live < (L.getD x zRw).used from fun x h => vic_mem h)
    obtain ⟨vs, hvs⟩ : ∃ vs, vicR use L = vs := ⟨_, rfl⟩
    rw [hvs] at HVi HMem HOrd HVm hvl
    obtain ⟨nv, hnv⟩ : ∃ n, vs.length = n := ⟨_, rfl⟩
    rw [hnv] at HMem HOrd hvl
    have hnv256 : nv ≤ 256 := by omega
    have HNv := Aside0.mk hnv
    clear hvs hnv hvr
    have HVl := Aside0.mk hvl
    clear hvl
    go_wp2_with (go_at_call 17; (with_reducible refine HVi.out.mono ?_); rintro e w2 ⟨v, rfl, hr, hb⟩; have HB2 := Aside0.mk hb; obtain ⟨A, c, rfl, hcs⟩ := R_ints hr; have HCv := Aside0.mk hcs; clear hr hb hcs; rw [HNv.out])
    have HS2 := Aside0.mk (HS1.out.on HB2.out)
    have HBw := Aside0.mk (btr HB1.out HB2.out)
    have HBlk := Aside0.mk (show ∀ W, Below w2.heap.size w2 W → ∀ x, x < L.length → Calls Tryz.prog 18 #[.pointer (some ⟨b, 0, none⟩), .int .i64 (x : Int)] W (BlockPost W (0, L.getD x zRw)) from fun W hb x hx => by
      have h := block_calls (HS2.out.on hb) (x : Int)
      unfold blockR at h
      rw [there_in hx] at h
      exact h)
    clear HVi HS1
    go_loopw [11] (fun i wr => ∃ k : Nat, k ≤ nv ∧ i = .int .i64 k ∧ Aside0 (Below w2.heap.size w2 wr)) (fun i _ => nv - (intOf i).toNat)
    case atStart => exact ⟨0, by omega, rfl, ⟨Below.refl _ _⟩⟩
    case round =>
      obtain ⟨k, hk, rfl, HW⟩ := hrel
      by_cases hlt : k < nv
      · obtain ⟨g, o, rfl, hcs⟩ := HCv.out k (by rw [HNv.out]; exact hlt)
        have HCs := Aside0.mk (show ∀ W, Below w2.heap.size w2 W → ∀ j, j < nv → W.cell? ⟨g, o + j, none⟩ = some (.int .i64 ((vs.getD j 0 : Nat) : Int)) from fun W hb j hj => cell_bel hb (hcs j (by rw [HNv.out]; exact hj)))
        obtain ⟨m1, m2, m3, m4⟩ := HVm.out _ (HMem.out k hlt)
        have hrx := HO.out.ok.rows _ (getD_mem m1)
        have hhi := HO.out.ok.hi
        have HBx := Aside0.mk (show ∀ W, Below w2.heap.size w2 W → _ from fun W hb => HBlk.out W hb _ m1)
        have HKn := Aside0.mk hlt
        have hcx := HCs.out wr HW.out k hlt
        have HOk := Aside0.mk (HOrd.out)
        obtain ⟨x, hx⟩ : ∃ x, vs.getD k 0 = x := ⟨_, rfl⟩
        have HX := Aside0.mk hx
        rw [hx] at m1 m2 m3 m4 hrx HBx hcx
        obtain ⟨⟨u_, a, l, c_⟩, hrow⟩ : ∃ r, L.getD x zRw = r := ⟨_, rfl⟩
        have HRx := Aside0.mk hrow
        rw [hrow] at m2 m3 m4 hrx HBx
        dsimp only at m2 m3 m4 hrx
        have m2' := m2.symm
        clear m2
        subst m2'
        subst m3
        have g1 : (a == l) = false := beq_eq_false_iff_ne.2 (by omega)
        have j1 : (k : Int) < (nv : Int) := by omega
        have j2 : (0 : Int) ≤ (k : Int) := by omega
        by_cases hk0 : k = 0
        · subst hk0
          rw [Nat.add_zero] at hcx
          clear hcs hx hrow hrx hhi m1 m4 HOk
          go_wp2_with ((go_at_call 18; (with_reducible refine (HBx.out wr HW.out).mono ?_); rintro e w3 ⟨rfl, hb⟩; dsimp only; have HW3 := Aside0.mk (below_alloc (btr HW.out hb) (.cells #[.int .i64 use, .int .i64 a, .int .i64 l, .bool true] 36)); have HK3 := Aside0.mk (blk_new w3 (.cells #[.int .i64 use, .int .i64 a, .int .i64 l, .bool true] 36)); have y0 := cell_blk (i := 0) HK3.out rfl; have y1 := cell_blk (i := 1) HK3.out rfl; have y2 := cell_blk (i := 2) HK3.out rfl; have y3 := cell_blk (i := 3) HK3.out rfl; clear hb))
          go_roundw
          case rel => exact ⟨1, by have := HKn.out; omega, by go_num, HW3⟩
          case measure => have := HKn.out; simp [intOf]; omega
        · obtain ⟨j, rfl⟩ : ∃ j, k = j + 1 := ⟨k - 1, by omega⟩
          have hah := HOk.out j hlt
          obtain ⟨n1, n2, n3, n4⟩ := HVm.out _ (HMem.out j (by omega))
          have hry := HO.out.ok.rows _ (getD_mem n1)
          have HBy := Aside0.mk (show ∀ W, Below w2.heap.size w2 W → _ from fun W hb => HBlk.out W hb _ n1)
          rw [hx] at hah
          obtain ⟨y, hy⟩ : ∃ y, vs.getD j 0 = y := ⟨_, rfl⟩
          have HY := Aside0.mk hy
          rw [hy] at n1 n2 n3 n4 hry HBy hah
          unfold Ah dirtyOf at hah
          rw [hrow] at hah
          obtain ⟨⟨u2_, a2, l2, c2_⟩, hrow2⟩ : ∃ r, L.getD y zRw = r := ⟨_, rfl⟩
          rw [hrow2] at n2 n3 n4 hry HBy hah
          dsimp only at n2 n3 n4 hry hah
          have n2' := n2.symm
          clear n2
          subst n2'
          subst n3
          have HJn := Aside0.mk (show j < nv by omega)
          have hj1 : (j : Int) < (nv : Int) := by omega
          have hj2 : (0 : Int) ≤ (j : Int) := by omega
          obtain ⟨k, hkk⟩ : ∃ k, j + 1 = k := ⟨_, rfl⟩
          rw [hkk] at hcx j1 j2 HKn HX ⊢
          have hw1 : wrap64 ((k : Int) - 1) = (j : Int) := by rw [w64 (by omega) (by omega)]; omega
          have hw2 : IntKind.i64.wrap ((k : Int) - 1) = (j : Int) := by rw [i64_small (by omega) (by omega)]; omega
          have hw3 := i64_small (n := a2 - l2) (by omega) (by omega)
          have hw4 := i64_small (n := a - l) (by omega) (by omega)
          have f1 : ¬ a2 - l2 < a - l := by omega
          have t0 : (0 : Int) < (k : Int) := by omega
          by_cases heq : a2 - l2 = a - l
          · have f2 : ((a2 - l2) == (a - l)) = true := by rw [heq]; exact beq_self_eq_true _
            have f3 : ¬ ((x : Int) ≤ (y : Int)) := by omega
            have f4 : y < x := by omega
            have HKj := Aside0.mk hkk
            clear hcs hx hy hrow hrow2 hrx hry hhi m1 n1 m4 n4 HOk hah heq hkk hk hlt hk0
            go_wp2_with (first | (go_at_call 18; (with_reducible refine (HBx.out wr HW.out).mono ?_); rintro e w3 ⟨rfl, hb⟩; dsimp only; have HW3 := Aside0.mk (below_alloc (btr HW.out hb) (.cells #[.int .i64 use, .int .i64 a, .int .i64 l, .bool true] 36)); have HK3 := Aside0.mk (blk_new w3 (.cells #[.int .i64 use, .int .i64 a, .int .i64 l, .bool true] 36)); have y0 := cell_blk (i := 0) HK3.out rfl; have y1 := cell_blk (i := 1) HK3.out rfl; have y2 := cell_blk (i := 2) HK3.out rfl; have y3 := cell_blk (i := 3) HK3.out rfl; go_loud (have hcj := HCs.out _ HW3.out _ HJn.out; rw [HY.out] at hcj); clear hb) | (go_at_call 18; (with_reducible refine (HBy.out _ HW3.out).mono ?_); rintro e w4 ⟨rfl, hb⟩; dsimp only; have HW4 := Aside0.mk (below_alloc (btr HW3.out hb) (.cells #[.int .i64 use, .int .i64 a2, .int .i64 l2, .bool true] 36)); have hk3 := blk_alloc (blk_below HK3.out hb) (.cells #[.int .i64 use, .int .i64 a2, .int .i64 l2, .bool true] 36); have hk4 := blk_new w4 (.cells #[.int .i64 use, .int .i64 a2, .int .i64 l2, .bool true] 36); have x1 := cell_blk (i := 1) hk3 rfl; have x2 := cell_blk (i := 2) hk3 rfl; have z1 := cell_blk (i := 1) hk4 rfl; have z2 := cell_blk (i := 2) hk4 rfl; have hvx := HCs.out _ HW4.out _ HKn.out; have hvy := HCs.out _ HW4.out _ HJn.out; rw [HX.out] at hvx; rw [HY.out] at hvy; clear hb hk3 hk4 hcj))
            refine start_0 (S := (fun V => V.cell? ⟨w3.heap.size, 1, none⟩ = some (.int .i64 a) ∧ V.cell? ⟨w3.heap.size, 2, none⟩ = some (.int .i64 l) ∧ V.cell? ⟨w4.heap.size, 1, none⟩ = some (.int .i64 a2) ∧ V.cell? ⟨w4.heap.size, 2, none⟩ = some (.int .i64 l2) ∧ V.cell? ⟨g, o + k, none⟩ = some (.int .i64 (x : Int)) ∧ V.cell? ⟨g, o + j, none⟩ = some (.int .i64 (y : Int)))) (n := 36) (ds := []) #[false, false, false, false, false, false, false, false, false, false, false, false, false, false, false, false, false, false, false, false, false, false, false, false, false, false, false, false, false, false, false, false, false, false, false, false] (by kernel_rfl) rfl rfl ?_
            refine pure_ (i := 0) (N := some 77) (v := ?_) (a' := ?_) #[true, false, false, false, false, false, false, false, false, false, false, false, false, false, false, false, false, false, false, false, false, false, false, false, false, false, false, false, false, false, false, false, false, false, false, false] rfl rfl (by kernel_rfl) (fun _ _ _ h => h) (Or.inl ⟨by rfl, ?_⟩) ?_ ?_
            rotate_left
            · intro w'
              go_simp
              with_reducible rfl
            rotate_left
            · simp only [Act.put, List.setIfInBounds_toArray, List.set_cons_zero, List.set_cons_succ, i64_w, i32_w]
              rfl
            refine pure_ (i := 2) (N := some 79) (v := ?_) (a' := ?_) #[true, false, true, false, false, false, false, false, false, false, false, false, false, false, false, false, false, false, false, false, false, false, false, false, false, false, false, false, false, false, false, false, false, false, false, false] rfl rfl (by kernel_rfl) (fun _ _ _ h => h) (Or.inl ⟨by rfl, ?_⟩) ?_ ?_
            rotate_left
            · intro w'
              go_simp
              with_reducible rfl
            rotate_left
            · simp only [Act.put, List.setIfInBounds_toArray, List.set_cons_zero, List.set_cons_succ, i64_w, i32_w]
              rfl
            refine pure_ (i := 5) (N := some 82) (v := ?_) (a' := ?_) #[true, false, true, false, false, true, false, false, false, false, false, false, false, false, false, false, false, false, false, false, false, false, false, false, false, false, false, false, false, false, false, false, false, false, false, false] rfl rfl (by kernel_rfl) (fun _ _ _ h => h) (Or.inl ⟨by rfl, ?_⟩) ?_ ?_
            rotate_left
            · intro w'
              go_simp
              with_reducible rfl
            rotate_left
            · simp only [Act.put, List.setIfInBounds_toArray, List.set_cons_zero, List.set_cons_succ, i64_w, i32_w]
              rfl
            refine pure_ (i := 7) (N := some 84) (v := ?_) (a' := ?_) #[true, false, true, false, false, true, false, true, false, false, false, false, false, false, false, false, false, false, false, false, false, false, false, false, false, false, false, false, false, false, false, false, false, false, false, false] rfl rfl (by kernel_rfl) (fun _ _ _ h => h) (Or.inl ⟨by rfl, ?_⟩) ?_ ?_
            rotate_left
            · intro w'
              go_simp
              with_reducible rfl
            rotate_left
            · simp only [Act.put, List.setIfInBounds_toArray, List.set_cons_zero, List.set_cons_succ, i64_w, i32_w]
              rfl
            refine take_ (i := 1) (N := some 78) (v := .int .i64 a2) (a' := ?_) #[true, true, true, false, false, true, false, true, false, false, false, false, false, false, false, false, false, false, false, false, false, false, false, false, false, false, false, false, false, false, false, false, false, false, false, false] rfl rfl (by kernel_rfl) (fun _ _ _ h => h) (Or.inl ⟨by rfl, ?_⟩) (⟨x1, x2, z1, z2, hvx, hvy⟩) ?_ ?_
            · intro w' hSw
              (try dsimp only at hSw)
              go_simp
              try (with_reducible rfl)
            rotate_left
            · simp only [Act.put, List.setIfInBounds_toArray, List.set_cons_zero, List.set_cons_succ, i64_w, i32_w]
              rfl
            refine take_ (i := 3) (N := some 80) (v := .int .i64 l2) (a' := ?_) #[true, true, true, true, false, true, false, true, false, false, false, false, false, false, false, false, false, false, false, false, false, false, false, false, false, false, false, false, false, false, false, false, false, false, false, false] rfl rfl (by kernel_rfl) (fun _ _ _ h => h) (Or.inl ⟨by rfl, ?_⟩) (⟨x1, x2, z1, z2, hvx, hvy⟩) ?_ ?_
            · intro w' hSw
              (try dsimp only at hSw)
              go_simp
              try (with_reducible rfl)
            rotate_left
            · simp only [Act.put, List.setIfInBounds_toArray, List.set_cons_zero, List.set_cons_succ, i64_w, i32_w]
              rfl
            refine pure_ (i := 4) (N := some 81) (v := .int .i64 (a2 - l2)) (a' := ?_) #[true, true, true, true, true, true, false, true, false, false, false, false, false, false, false, false, false, false, false, false, false, false, false, false, false, false, false, false, false, false, false, false, false, false, false, false] rfl rfl (by kernel_rfl) (fun _ _ _ h => h) (Or.inl ⟨by rfl, ?_⟩) ?_ ?_
            · intro w'
              go_simp
              try (with_reducible rfl)
            rotate_left
            · simp only [Act.put, List.setIfInBounds_toArray, List.set_cons_zero, List.set_cons_succ, i64_w, i32_w]
              rfl
            refine take_ (i := 6) (N := some 83) (v := .int .i64 a) (a' := ?_) #[true, true, true, true, true, true, true, true, false, false, false, false, false, false, false, false, false, false, false, false, false, false, false, false, false, false, false, false, false, false, false, false, false, false, false, false] rfl rfl (by kernel_rfl) (fun _ _ _ h => h) (Or.inl ⟨by rfl, ?_⟩) (⟨x1, x2, z1, z2, hvx, hvy⟩) ?_ ?_
            · intro w' hSw
              (try dsimp only at hSw)
              go_simp
              try (with_reducible rfl)
            rotate_left
            · simp only [Act.put, List.setIfInBounds_toArray, List.set_cons_zero, List.set_cons_succ, i64_w, i32_w]
              rfl
            refine take_ (i := 8) (N := some 85) (v := .int .i64 l) (a' := ?_) #[true, true, true, true, true, true, true, true, true, false, false, false, false, false, false, false, false, false, false, false, false, false, false, false, false, false, false, false, false, false, false, false, false, false, false, false] rfl rfl (by kernel_rfl) (fun _ _ _ h => h) (Or.inl ⟨by rfl, ?_⟩) (⟨x1, x2, z1, z2, hvx, hvy⟩) ?_ ?_
            · intro w' hSw
              (try dsimp only at hSw)
              go_simp
              try (with_reducible rfl)
            rotate_left
            · simp only [Act.put, List.setIfInBounds_toArray, List.set_cons_zero, List.set_cons_succ, i64_w, i32_w]
              rfl
            refine pure_ (i := 9) (N := some 86) (v := .int .i64 (a - l)) (a' := ?_) #[true, true, true, true, true, true, true, true, true, true, false, false, false, false, false, false, false, false, false, false, false, false, false, false, false, false, false, false, false, false, false, false, false, false, false, false] rfl rfl (by kernel_rfl) (fun _ _ _ h => h) (Or.inl ⟨by rfl, ?_⟩) ?_ ?_
            · intro w'
              go_simp
              try (with_reducible rfl)
            rotate_left
            · simp only [Act.put, List.setIfInBounds_toArray, List.set_cons_zero, List.set_cons_succ, i64_w, i32_w]
              rfl
            refine pure_ (i := 10) (N := some 87) (v := .bool false) (a' := ?_) #[true, true, true, true, true, true, true, true, true, true, true, false, false, false, false, false, false, false, false, false, false, false, false, false, false, false, false, false, false, false, false, false, false, false, false, false] rfl rfl (by kernel_rfl) (fun _ _ _ h => h) (Or.inl ⟨by rfl, ?_⟩) ?_ ?_
            · intro w'
              go_simp
              try (with_reducible rfl)
            rotate_left
            · simp only [Act.put, List.setIfInBounds_toArray, List.set_cons_zero, List.set_cons_succ, i64_w, i32_w]
              rfl
            refine pure_ (i := 11) (N := some 88) (v := ?_) (a' := ?_) #[true, true, true, true, true, true, true, true, true, true, true, true, false, false, false, false, false, false, false, false, false, false, false, false, false, false, false, false, false, false, false, false, false, false, false, false] rfl rfl (by kernel_rfl) (fun _ _ _ h => h) (Or.inl ⟨by rfl, ?_⟩) ?_ ?_
            rotate_left
            · intro w'
              go_simp
              with_reducible rfl
            rotate_left
            · simp only [Act.put, List.setIfInBounds_toArray, List.set_cons_zero, List.set_cons_succ, i64_w, i32_w]
              rfl
            refine pure_ (i := 12) (N := some 89) (v := ?_) (a' := ?_) #[true, true, true, true, true, true, true, true, true, true, true, true, true, false, false, false, false, false, false, false, false, false, false, false, false, false, false, false, false, false, false, false, false, false, false, false] rfl rfl (by kernel_rfl) (fun _ _ _ h => h) (Or.inl ⟨by rfl, ?_⟩) ?_ ?_
            rotate_left
            · intro w'
              go_simp
              with_reducible rfl
            rotate_left
            · simp only [Act.put, List.setIfInBounds_toArray, List.set_cons_zero, List.set_cons_succ, i64_w, i32_w]
              rfl
            refine pure_ (i := 14) (N := some 91) (v := ?_) (a' := ?_) #[true, true, true, true, true, true, true, true, true, true, true, true, true, false, true, false, false, false, false, false, false, false, false, false, false, false, false, false, false, false, false, false, false, false, false, false] rfl rfl (by kernel_rfl) (fun _ _ _ h => h) (Or.inl ⟨by rfl, ?_⟩) ?_ ?_
            rotate_left
            · intro w'
              go_simp
              with_reducible rfl
            rotate_left
            · simp only [Act.put, List.setIfInBounds_toArray, List.set_cons_zero, List.set_cons_succ, i64_w, i32_w]
              rfl
            refine pure_ (i := 17) (N := some 94) (v := ?_) (a' := ?_) #[true, true, true, true, true, true, true, true, true, true, true, true, true, false, true, false, false, true, false, false, false, false, false, false, false, false, false, false, false, false, false, false, false, false, false, false] rfl rfl (by kernel_rfl) (fun _ _ _ h => h) (Or.inl ⟨by rfl, ?_⟩) ?_ ?_
            rotate_left
            · intro w'
              go_simp
              with_reducible rfl
            rotate_left
            · simp only [Act.put, List.setIfInBounds_toArray, List.set_cons_zero, List.set_cons_succ, i64_w, i32_w]
              rfl
            refine pure_ (i := 19) (N := some 96) (v := ?_) (a' := ?_) #[true, true, true, true, true, true, true, true, true, true, true, true, true, false, true, false, false, true, false, true, false, false, false, false, false, false, false, false, false, false, false, false, false, false, false, false] rfl rfl (by kernel_rfl) (fun _ _ _ h => h) (Or.inl ⟨by rfl, ?_⟩) ?_ ?_
            rotate_left
            · intro w'
              go_simp
              with_reducible rfl
            rotate_left
            · simp only [Act.put, List.setIfInBounds_toArray, List.set_cons_zero, List.set_cons_succ, i64_w, i32_w]
              rfl
            refine take_ (i := 13) (N := some 90) (v := .int .i64 a2) (a' := ?_) #[true, true, true, true, true, true, true, true, true, true, true, true, true, true, true, false, false, true, false, true, false, false, false, false, false, false, false, false, false, false, false, false, false, false, false, false] rfl rfl (by kernel_rfl) (fun _ _ _ h => h) (Or.inl ⟨by rfl, ?_⟩) (⟨x1, x2, z1, z2, hvx, hvy⟩) ?_ ?_
            · intro w' hSw
              (try dsimp only at hSw)
              go_simp
              try (with_reducible rfl)
            rotate_left
            · simp only [Act.put, List.setIfInBounds_toArray, List.set_cons_zero, List.set_cons_succ, i64_w, i32_w]
              rfl
            refine take_ (i := 15) (N := some 92) (v := .int .i64 l2) (a' := ?_) #[true, true, true, true, true, true, true, true, true, true, true, true, true, true, true, true, false, true, false, true, false, false, false, false, false, false, false, false, false, false, false, false, false, false, false, false] rfl rfl (by kernel_rfl) (fun _ _ _ h => h) (Or.inl ⟨by rfl, ?_⟩) (⟨x1, x2, z1, z2, hvx, hvy⟩) ?_ ?_
            · intro w' hSw
              (try dsimp only at hSw)
              go_simp
              try (with_reducible rfl)
            rotate_left
            · simp only [Act.put, List.setIfInBounds_toArray, List.set_cons_zero, List.set_cons_succ, i64_w, i32_w]
              rfl
            refine pure_ (i := 16) (N := some 93) (v := .int .i64 (a2 - l2)) (a' := ?_) #[true, true, true, true, true, true, true, true, true, true, true, true, true, true, true, true, true, true, false, true, false, false, false, false, false, false, false, false, false, false, false, false, false, false, false, false] rfl rfl (by kernel_rfl) (fun _ _ _ h => h) (Or.inl ⟨by rfl, ?_⟩) ?_ ?_
            · intro w'
              go_simp
              try (with_reducible rfl)
            rotate_left
            · simp only [Act.put, List.setIfInBounds_toArray, List.set_cons_zero, List.set_cons_succ, i64_w, i32_w]
              rfl
            refine take_ (i := 18) (N := some 95) (v := .int .i64 a) (a' := ?_) #[true, true, true, true, true, true, true, true, true, true, true, true, true, true, true, true, true, true, true, true, false, false, false, false, false, false, false, false, false, false, false, false, false, false, false, false] rfl rfl (by kernel_rfl) (fun _ _ _ h => h) (Or.inl ⟨by rfl, ?_⟩) (⟨x1, x2, z1, z2, hvx, hvy⟩) ?_ ?_
            · intro w' hSw
              (try dsimp only at hSw)
              go_simp
              try (with_reducible rfl)
            rotate_left
            · simp only [Act.put, List.setIfInBounds_toArray, List.set_cons_zero, List.set_cons_succ, i64_w, i32_w]
              rfl
            refine take_ (i := 20) (N := some 97) (v := .int .i64 l) (a' := ?_) #[true, true, true, true, true, true, true, true, true, true, true, true, true, true, true, true, true, true, true, true, true, false, false, false, false, false, false, false, false, false, false, false, false, false, false, false] rfl rfl (by kernel_rfl) (fun _ _ _ h => h) (Or.inl ⟨by rfl, ?_⟩) (⟨x1, x2, z1, z2, hvx, hvy⟩) ?_ ?_
            · intro w' hSw
              (try dsimp only at hSw)
              go_simp
              try (with_reducible rfl)
            rotate_left
            · simp only [Act.put, List.setIfInBounds_toArray, List.set_cons_zero, List.set_cons_succ, i64_w, i32_w]
              rfl
            refine pure_ (i := 21) (N := some 98) (v := .int .i64 (a - l)) (a' := ?_) #[true, true, true, true, true, true, true, true, true, true, true, true, true, true, true, true, true, true, true, true, true, true, false, false, false, false, false, false, false, false, false, false, false, false, false, false] rfl rfl (by kernel_rfl) (fun _ _ _ h => h) (Or.inl ⟨by rfl, ?_⟩) ?_ ?_
            · intro w'
              go_simp
              try (with_reducible rfl)
            rotate_left
            · simp only [Act.put, List.setIfInBounds_toArray, List.set_cons_zero, List.set_cons_succ, i64_w, i32_w]
              rfl
            refine pure_ (i := 22) (N := some 99) (v := .bool true) (a' := ?_) #[true, true, true, true, true, true, true, true, true, true, true, true, true, true, true, true, true, true, true, true, true, true, true, false, false, false, false, false, false, false, false, false, false, false, false, false] rfl rfl (by kernel_rfl) (fun _ _ _ h => h) (Or.inl ⟨by rfl, ?_⟩) ?_ ?_
            · intro w'
              go_simp
              try (with_reducible rfl)
            rotate_left
            · simp only [Act.put, List.setIfInBounds_toArray, List.set_cons_zero, List.set_cons_succ, i64_w, i32_w]
              rfl
            refine pure_ (i := 23) (N := some 100) (v := ?_) (a' := ?_) #[true, true, true, true, true, true, true, true, true, true, true, true, true, true, true, true, true, true, true, true, true, true, true, true, false, false, false, false, false, false, false, false, false, false, false, false] rfl rfl (by kernel_rfl) (fun _ _ _ h => h) (Or.inl ⟨by rfl, ?_⟩) ?_ ?_
            rotate_left
            · intro w'
              go_simp
              with_reducible rfl
            rotate_left
            · simp only [Act.put, List.setIfInBounds_toArray, List.set_cons_zero, List.set_cons_succ, i64_w, i32_w]
              rfl
            refine pure_ (i := 24) (N := some 101) (v := ?_) (a' := ?_) #[true, true, true, true, true, true, true, true, true, true, true, true, true, true, true, true, true, true, true, true, true, true, true, true, true, false, false, false, false, false, false, false, false, false, false, false] rfl rfl (by kernel_rfl) (fun _ _ _ h => h) (Or.inl ⟨by rfl, ?_⟩) ?_ ?_
            rotate_left
            · intro w'
              go_simp
              with_reducible rfl
            rotate_left
            · simp only [Act.put, List.setIfInBounds_toArray, List.set_cons_zero, List.set_cons_succ, i64_w, i32_w]
              rfl
            refine pure_ (i := 25) (N := some 102) (v := ?_) (a' := ?_) #[true, true, true, true, true, true, true, true, true, true, true, true, true, true, true, true, true, true, true, true, true, true, true, true, true, true, false, false, false, false, false, false, false, false, false, false] rfl rfl (by kernel_rfl) (fun _ _ _ h => h) (Or.inl ⟨by rfl, ?_⟩) ?_ ?_
            rotate_left
            · intro w'
              go_simp
              with_reducible rfl
            rotate_left
            · simp only [Act.put, List.setIfInBounds_toArray, List.set_cons_zero, List.set_cons_succ, i64_w, i32_w]
              rfl
            refine pure_ (i := 26) (N := some 103) (v := .int .i64 (j : Int)) (a' := ?_) #[true, true, true, true, true, true, true, true, true, true, true, true, true, true, true, true, true, true, true, true, true, true, true, true, true, true, true, false, false, false, false, false, false, false, false, false] rfl rfl (by kernel_rfl) (fun _ _ _ h => h) (Or.inl ⟨by rfl, ?_⟩) ?_ ?_
            · intro w'
              go_simp
              try (with_reducible rfl)
            rotate_left
            · simp only [Act.put, List.setIfInBounds_toArray, List.set_cons_zero, List.set_cons_succ, i64_w, i32_w]
              rfl
            refine pure_ (i := 27) (N := some 104) (v := ?_) (a' := ?_) #[true, true, true, true, true, true, true, true, true, true, true, true, true, true, true, true, true, true, true, true, true, true, true, true, true, true, true, true, false, false, false, false, false, false, false, false] rfl rfl (by kernel_rfl) (fun _ _ _ h => h) (Or.inl ⟨by rfl, ?_⟩) ?_ ?_
            rotate_left
            · intro w'
              go_simp
              with_reducible rfl
            rotate_left
            · simp only [Act.put, List.setIfInBounds_toArray, List.set_cons_zero, List.set_cons_succ, i64_w, i32_w]
              rfl
            refine pure_ (i := 29) (N := some 106) (v := ?_) (a' := ?_) #[true, true, true, true, true, true, true, true, true, true, true, true, true, true, true, true, true, true, true, true, true, true, true, true, true, true, true, true, false, true, false, false, false, false, false, false] rfl rfl (by kernel_rfl) (fun _ _ _ h => h) (Or.inl ⟨by rfl, ?_⟩) ?_ ?_
            rotate_left
            · intro w'
              go_simp
              with_reducible rfl
            rotate_left
            · simp only [Act.put, List.setIfInBounds_toArray, List.set_cons_zero, List.set_cons_succ, i64_w, i32_w]
              rfl
            refine pure_ (i := 30) (N := some 107) (v := ?_) (a' := ?_) #[true, true, true, true, true, true, true, true, true, true, true, true, true, true, true, true, true, true, true, true, true, true, true, true, true, true, true, true, false, true, true, false, false, false, false, false] rfl rfl (by kernel_rfl) (fun _ _ _ h => h) (Or.inl ⟨by rfl, ?_⟩) ?_ ?_
            rotate_left
            · intro w'
              go_simp
              with_reducible rfl
            rotate_left
            · simp only [Act.put, List.setIfInBounds_toArray, List.set_cons_zero, List.set_cons_succ, i64_w, i32_w]
              rfl
            refine pure_ (i := 31) (N := some 108) (v := ?_) (a' := ?_) #[true, true, true, true, true, true, true, true, true, true, true, true, true, true, true, true, true, true, true, true, true, true, true, true, true, true, true, true, false, true, true, true, false, false, false, false] rfl rfl (by kernel_rfl) (fun _ _ _ h => h) (Or.inl ⟨by rfl, ?_⟩) ?_ ?_
            rotate_left
            · intro w'
              go_simp
              with_reducible rfl
            rotate_left
            · simp only [Act.put, List.setIfInBounds_toArray, List.set_cons_zero, List.set_cons_succ, i64_w, i32_w]
              rfl
            refine take_ (i := 28) (N := some 105) (v := .int .i64 (y : Int)) (a' := ?_) #[true, true, true, true, true, true, true, true, true, true, true, true, true, true, true, true, true, true, true, true, true, true, true, true, true, true, true, true, true, true, true, true, false, false, false, false] rfl rfl (by kernel_rfl) (fun _ _ _ h => h) (Or.inl ⟨by rfl, ?_⟩) (⟨x1, x2, z1, z2, hvx, hvy⟩) ?_ ?_
            · intro w' hSw
              (try dsimp only at hSw)
              go_simp
              try (with_reducible rfl)
            rotate_left
            · simp only [Act.put, List.setIfInBounds_toArray, List.set_cons_zero, List.set_cons_succ, i64_w, i32_w]
              rfl
            refine take_ (i := 32) (N := some 109) (v := .int .i64 (x : Int)) (a' := ?_) #[true, true, true, true, true, true, true, true, true, true, true, true, true, true, true, true, true, true, true, true, true, true, true, true, true, true, true, true, true, true, true, true, true, false, false, false] rfl rfl (by kernel_rfl) (fun _ _ _ h => h) (Or.inl ⟨by rfl, ?_⟩) (⟨x1, x2, z1, z2, hvx, hvy⟩) ?_ ?_
            · intro w' hSw
              (try dsimp only at hSw)
              go_simp
              try (with_reducible rfl)
            rotate_left
            · simp only [Act.put, List.setIfInBounds_toArray, List.set_cons_zero, List.set_cons_succ, i64_w, i32_w]
              rfl
            refine pure_ (i := 33) (N := some 110) (v := .bool false) (a' := ?_) #[true, true, true, true, true, true, true, true, true, true, true, true, true, true, true, true, true, true, true, true, true, true, true, true, true, true, true, true, true, true, true, true, true, true, false, false] rfl rfl (by kernel_rfl) (fun _ _ _ h => h) (Or.inl ⟨by rfl, ?_⟩) ?_ ?_
            · intro w'
              go_simp
              try (with_reducible rfl)
            rotate_left
            · simp only [Act.put, List.setIfInBounds_toArray, List.set_cons_zero, List.set_cons_succ, i64_w, i32_w]
              rfl
            refine pure_ (i := 34) (N := some 111) (v := ?_) (a' := ?_) #[true, true, true, true, true, true, true, true, true, true, true, true, true, true, true, true, true, true, true, true, true, true, true, true, true, true, true, true, true, true, true, true, true, true, true, false] rfl rfl (by kernel_rfl) (fun _ _ _ h => h) (Or.inl ⟨by rfl, ?_⟩) ?_ ?_
            rotate_left
            · intro w'
              go_simp
              with_reducible rfl
            rotate_left
            · simp only [Act.put, List.setIfInBounds_toArray, List.set_cons_zero, List.set_cons_succ, i64_w, i32_w]
              rfl
            refine pure_ (i := 35) (N := some 112) (v := ?_) (a' := ?_) #[true, true, true, true, true, true, true, true, true, true, true, true, true, true, true, true, true, true, true, true, true, true, true, true, true, true, true, true, true, true, true, true, true, true, true, true] rfl rfl (by kernel_rfl) (fun _ _ _ h => h) (Or.inl ⟨by rfl, ?_⟩) ?_ ?_
            rotate_left
            · intro w'
              go_simp
              with_reducible rfl
            rotate_left
            · simp only [Act.put, List.setIfInBounds_toArray, List.set_cons_zero, List.set_cons_succ, i64_w, i32_w]
              rfl
            refine done_ (by kernel_rfl) ?_
            go_wp2
            go_roundw
            case rel => exact ⟨k + 1, by have := HKn.out; omega, by go_num, ⟨bdr HW4.out⟩⟩
            case measure => have := HKn.out; simp [intOf]; omega
          · have f2 : ((a2 - l2) == (a - l)) = false := beq_eq_false_iff_ne.2 heq
            have HKj := Aside0.mk hkk
            clear hcs hx hy hrow hrow2 hrx hry hhi m1 n1 m4 n4 HOk hah heq hkk hk hlt hk0
            go_wp2_with (first | (go_at_call 18; (with_reducible refine (HBx.out wr HW.out).mono ?_); rintro e w3 ⟨rfl, hb⟩; dsimp only; have HW3 := Aside0.mk (below_alloc (btr HW.out hb) (.cells #[.int .i64 use, .int .i64 a, .int .i64 l, .bool true] 36)); have HK3 := Aside0.mk (blk_new w3 (.cells #[.int .i64 use, .int .i64 a, .int .i64 l, .bool true] 36)); have y0 := cell_blk (i := 0) HK3.out rfl; have y1 := cell_blk (i := 1) HK3.out rfl; have y2 := cell_blk (i := 2) HK3.out rfl; have y3 := cell_blk (i := 3) HK3.out rfl; go_loud (have hcj := HCs.out _ HW3.out _ HJn.out; rw [HY.out] at hcj); clear hb) | (go_at_call 18; (with_reducible refine (HBy.out _ HW3.out).mono ?_); rintro e w4 ⟨rfl, hb⟩; dsimp only; have HW4 := Aside0.mk (below_alloc (btr HW3.out hb) (.cells #[.int .i64 use, .int .i64 a2, .int .i64 l2, .bool true] 36)); have hk3 := blk_alloc (blk_below HK3.out hb) (.cells #[.int .i64 use, .int .i64 a2, .int .i64 l2, .bool true] 36); have hk4 := blk_new w4 (.cells #[.int .i64 use, .int .i64 a2, .int .i64 l2, .bool true] 36); have x1 := cell_blk (i := 1) hk3 rfl; have x2 := cell_blk (i := 2) hk3 rfl; have z1 := cell_blk (i := 1) hk4 rfl; have z2 := cell_blk (i := 2) hk4 rfl; have hvx := HCs.out _ HW4.out _ HKn.out; have hvy := HCs.out _ HW4.out _ HJn.out; rw [HX.out] at hvx; rw [HY.out] at hvy; clear hb hk3 hk4 hcj))
            refine start_0 (S := (fun V => V.cell? ⟨w3.heap.size, 1, none⟩ = some (.int .i64 a) ∧ V.cell? ⟨w3.heap.size, 2, none⟩ = some (.int .i64 l) ∧ V.cell? ⟨w4.heap.size, 1, none⟩ = some (.int .i64 a2) ∧ V.cell? ⟨w4.heap.size, 2, none⟩ = some (.int .i64 l2) ∧ V.cell? ⟨g, o + k, none⟩ = some (.int .i64 (x : Int)) ∧ V.cell? ⟨g, o + j, none⟩ = some (.int .i64 (y : Int)))) (n := 36) (ds := []) #[false, false, false, false, false, false, false, false, false, false, false, false, false, false, false, false, false, false, false, false, false, false, false, false, false, false, false, false, false, false, false, false, false, false, false, false] (by kernel_rfl) rfl rfl ?_
            refine pure_ (i := 0) (N := some 77) (v := ?_) (a' := ?_) #[true, false, false, false, false, false, false, false, false, false, false, false, false, false, false, false, false, false, false, false, false, false, false, false, false, false, false, false, false, false, false, false, false, false, false, false] rfl rfl (by kernel_rfl) (fun _ _ _ h => h) (Or.inl ⟨by rfl, ?_⟩) ?_ ?_
            rotate_left
            · intro w'
              go_simp
              with_reducible rfl
            rotate_left
            · simp only [Act.put, List.setIfInBounds_toArray, List.set_cons_zero, List.set_cons_succ, i64_w, i32_w]
              rfl
            refine pure_ (i := 2) (N := some 79) (v := ?_) (a' := ?_) #[true, false, true, false, false, false, false, false, false, false, false, false, false, false, false, false, false, false, false, false, false, false, false, false, false, false, false, false, false, false, false, false, false, false, false, false] rfl rfl (by kernel_rfl) (fun _ _ _ h => h) (Or.inl ⟨by rfl, ?_⟩) ?_ ?_
            rotate_left
            · intro w'
              go_simp
              with_reducible rfl
            rotate_left
            · simp only [Act.put, List.setIfInBounds_toArray, List.set_cons_zero, List.set_cons_succ, i64_w, i32_w]
              rfl
            refine pure_ (i := 5) (N := some 82) (v := ?_) (a' := ?_) #[true, false, true, false, false, true, false, false, false, false, false, false, false, false, false, false, false, false, false, false, false, false, false, false, false, false, false, false, false, false, false, false, false, false, false, false] rfl rfl (by kernel_rfl) (fun _ _ _ h => h) (Or.inl ⟨by rfl, ?_⟩) ?_ ?_
            rotate_left
            · intro w'
              go_simp
              with_reducible rfl
            rotate_left
            · simp only [Act.put, List.setIfInBounds_toArray, List.set_cons_zero, List.set_cons_succ, i64_w, i32_w]
              rfl
            refine pure_ (i := 7) (N := some 84) (v := ?_) (a' := ?_) #[true, false, true, false, false, true, false, true, false, false, false, false, false, false, false, false, false, false, false, false, false, false, false, false, false, false, false, false, false, false, false, false, false, false, false, false] rfl rfl (by kernel_rfl) (fun _ _ _ h => h) (Or.inl ⟨by rfl, ?_⟩) ?_ ?_
            rotate_left
            · intro w'
              go_simp
              with_reducible rfl
            rotate_left
            · simp only [Act.put, List.setIfInBounds_toArray, List.set_cons_zero, List.set_cons_succ, i64_w, i32_w]
              rfl
            refine take_ (i := 1) (N := some 78) (v := .int .i64 a2) (a' := ?_) #[true, true, true, false, false, true, false, true, false, false, false, false, false, false, false, false, false, false, false, false, false, false, false, false, false, false, false, false, false, false, false, false, false, false, false, false] rfl rfl (by kernel_rfl) (fun _ _ _ h => h) (Or.inl ⟨by rfl, ?_⟩) (⟨x1, x2, z1, z2, hvx, hvy⟩) ?_ ?_
            · intro w' hSw
              (try dsimp only at hSw)
              go_simp
              try (with_reducible rfl)
            rotate_left
            · simp only [Act.put, List.setIfInBounds_toArray, List.set_cons_zero, List.set_cons_succ, i64_w, i32_w]
              rfl
            refine take_ (i := 3) (N := some 80) (v := .int .i64 l2) (a' := ?_) #[true, true, true, true, false, true, false, true, false, false, false, false, false, false, false, false, false, false, false, false, false, false, false, false, false, false, false, false, false, false, false, false, false, false, false, false] rfl rfl (by kernel_rfl) (fun _ _ _ h => h) (Or.inl ⟨by rfl, ?_⟩) (⟨x1, x2, z1, z2, hvx, hvy⟩) ?_ ?_
            · intro w' hSw
              (try dsimp only at hSw)
              go_simp
              try (with_reducible rfl)
            rotate_left
            · simp only [Act.put, List.setIfInBounds_toArray, List.set_cons_zero, List.set_cons_succ, i64_w, i32_w]
              rfl
            refine pure_ (i := 4) (N := some 81) (v := .int .i64 (a2 - l2)) (a' := ?_) #[true, true, true, true, true, true, false, true, false, false, false, false, false, false, false, false, false, false, false, false, false, false, false, false, false, false, false, false, false, false, false, false, false, false, false, false] rfl rfl (by kernel_rfl) (fun _ _ _ h => h) (Or.inl ⟨by rfl, ?_⟩) ?_ ?_
            · intro w'
              go_simp
              try (with_reducible rfl)
            rotate_left
            · simp only [Act.put, List.setIfInBounds_toArray, List.set_cons_zero, List.set_cons_succ, i64_w, i32_w]
              rfl
            refine take_ (i := 6) (N := some 83) (v := .int .i64 a) (a' := ?_) #[true, true, true, true, true, true, true, true, false, false, false, false, false, false, false, false, false, false, false, false, false, false, false, false, false, false, false, false, false, false, false, false, false, false, false, false] rfl rfl (by kernel_rfl) (fun _ _ _ h => h) (Or.inl ⟨by rfl, ?_⟩) (⟨x1, x2, z1, z2, hvx, hvy⟩) ?_ ?_
            · intro w' hSw
              (try dsimp only at hSw)
              go_simp
              try (with_reducible rfl)
            rotate_left
            · simp only [Act.put, List.setIfInBounds_toArray, List.set_cons_zero, List.set_cons_succ, i64_w, i32_w]
              rfl
            refine take_ (i := 8) (N := some 85) (v := .int .i64 l) (a' := ?_) #[true, true, true, true, true, true, true, true, true, false, false, false, false, false, false, false, false, false, false, false, false, false, false, false, false, false, false, false, false, false, false, false, false, false, false, false] rfl rfl (by kernel_rfl) (fun _ _ _ h => h) (Or.inl ⟨by rfl, ?_⟩) (⟨x1, x2, z1, z2, hvx, hvy⟩) ?_ ?_
            · intro w' hSw
              (try dsimp only at hSw)
              go_simp
              try (with_reducible rfl)
            rotate_left
            · simp only [Act.put, List.setIfInBounds_toArray, List.set_cons_zero, List.set_cons_succ, i64_w, i32_w]
              rfl
            refine pure_ (i := 9) (N := some 86) (v := .int .i64 (a - l)) (a' := ?_) #[true, true, true, true, true, true, true, true, true, true, false, false, false, false, false, false, false, false, false, false, false, false, false, false, false, false, false, false, false, false, false, false, false, false, false, false] rfl rfl (by kernel_rfl) (fun _ _ _ h => h) (Or.inl ⟨by rfl, ?_⟩) ?_ ?_
            · intro w'
              go_simp
              try (with_reducible rfl)
            rotate_left
            · simp only [Act.put, List.setIfInBounds_toArray, List.set_cons_zero, List.set_cons_succ, i64_w, i32_w]
              rfl
            refine pure_ (i := 10) (N := some 87) (v := .bool false) (a' := ?_) #[true, true, true, true, true, true, true, true, true, true, true, false, false, false, false, false, false, false, false, false, false, false, false, false, false, false, false, false, false, false, false, false, false, false, false, false] rfl rfl (by kernel_rfl) (fun _ _ _ h => h) (Or.inl ⟨by rfl, ?_⟩) ?_ ?_
            · intro w'
              go_simp
              try (with_reducible rfl)
            rotate_left
            · simp only [Act.put, List.setIfInBounds_toArray, List.set_cons_zero, List.set_cons_succ, i64_w, i32_w]
              rfl
            refine pure_ (i := 11) (N := some 88) (v := ?_) (a' := ?_) #[true, true, true, true, true, true, true, true, true, true, true, true, false, false, false, false, false, false, false, false, false, false, false, false, false, false, false, false, false, false, false, false, false, false, false, false] rfl rfl (by kernel_rfl) (fun _ _ _ h => h) (Or.inl ⟨by rfl, ?_⟩) ?_ ?_
            rotate_left
            · intro w'
              go_simp
              with_reducible rfl
            rotate_left
            · simp only [Act.put, List.setIfInBounds_toArray, List.set_cons_zero, List.set_cons_succ, i64_w, i32_w]
              rfl
            refine pure_ (i := 12) (N := some 89) (v := ?_) (a' := ?_) #[true, true, true, true, true, true, true, true, true, true, true, true, true, false, false, false, false, false, false, false, false, false, false, false, false, false, false, false, false, false, false, false, false, false, false, false] rfl rfl (by kernel_rfl) (fun _ _ _ h => h) (Or.inl ⟨by rfl, ?_⟩) ?_ ?_
            rotate_left
            · intro w'
              go_simp
              with_reducible rfl
            rotate_left
            · simp only [Act.put, List.setIfInBounds_toArray, List.set_cons_zero, List.set_cons_succ, i64_w, i32_w]
              rfl
            refine pure_ (i := 14) (N := some 91) (v := ?_) (a' := ?_) #[true, true, true, true, true, true, true, true, true, true, true, true, true, false, true, false, false, false, false, false, false, false, false, false, false, false, false, false, false, false, false, false, false, false, false, false] rfl rfl (by kernel_rfl) (fun _ _ _ h => h) (Or.inl ⟨by rfl, ?_⟩) ?_ ?_
            rotate_left
            · intro w'
              go_simp
              with_reducible rfl
            rotate_left
            · simp only [Act.put, List.setIfInBounds_toArray, List.set_cons_zero, List.set_cons_succ, i64_w, i32_w]
              rfl
            refine pure_ (i := 17) (N := some 94) (v := ?_) (a' := ?_) #[true, true, true, true, true, true, true, true, true, true, true, true, true, false, true, false, false, true, false, false, false, false, false, false, false, false, false, false, false, false, false, false, false, false, false, false] rfl rfl (by kernel_rfl) (fun _ _ _ h => h) (Or.inl ⟨by rfl, ?_⟩) ?_ ?_
            rotate_left
            · intro w'
              go_simp
              with_reducible rfl
            rotate_left
            · simp only [Act.put, List.setIfInBounds_toArray, List.set_cons_zero, List.set_cons_succ, i64_w, i32_w]
              rfl
            refine pure_ (i := 19) (N := some 96) (v := ?_) (a' := ?_) #[true, true, true, true, true, true, true, true, true, true, true, true, true, false, true, false, false, true, false, true, false, false, false, false, false, false, false, false, false, false, false, false, false, false, false, false] rfl rfl (by kernel_rfl) (fun _ _ _ h => h) (Or.inl ⟨by rfl, ?_⟩) ?_ ?_
            rotate_left
            · intro w'
              go_simp
              with_reducible rfl
            rotate_left
            · simp only [Act.put, List.setIfInBounds_toArray, List.set_cons_zero, List.set_cons_succ, i64_w, i32_w]
              rfl
            refine take_ (i := 13) (N := some 90) (v := .int .i64 a2) (a' := ?_) #[true, true, true, true, true, true, true, true, true, true, true, true, true, true, true, false, false, true, false, true, false, false, false, false, false, false, false, false, false, false, false, false, false, false, false, false] rfl rfl (by kernel_rfl) (fun _ _ _ h => h) (Or.inl ⟨by rfl, ?_⟩) (⟨x1, x2, z1, z2, hvx, hvy⟩) ?_ ?_
            · intro w' hSw
              (try dsimp only at hSw)
              go_simp
              try (with_reducible rfl)
            rotate_left
            · simp only [Act.put, List.setIfInBounds_toArray, List.set_cons_zero, List.set_cons_succ, i64_w, i32_w]
              rfl
            refine take_ (i := 15) (N := some 92) (v := .int .i64 l2) (a' := ?_) #[true, true, true, true, true, true, true, true, true, true, true, true, true, true, true, true, false, true, false, true, false, false, false, false, false, false, false, false, false, false, false, false, false, false, false, false] rfl rfl (by kernel_rfl) (fun _ _ _ h => h) (Or.inl ⟨by rfl, ?_⟩) (⟨x1, x2, z1, z2, hvx, hvy⟩) ?_ ?_
            · intro w' hSw
              (try dsimp only at hSw)
              go_simp
              try (with_reducible rfl)
            rotate_left
            · simp only [Act.put, List.setIfInBounds_toArray, List.set_cons_zero, List.set_cons_succ, i64_w, i32_w]
              rfl
            refine pure_ (i := 16) (N := some 93) (v := .int .i64 (a2 - l2)) (a' := ?_) #[true, true, true, true, true, true, true, true, true, true, true, true, true, true, true, true, true, true, false, true, false, false, false, false, false, false, false, false, false, false, false, false, false, false, false, false] rfl rfl (by kernel_rfl) (fun _ _ _ h => h) (Or.inl ⟨by rfl, ?_⟩) ?_ ?_
            · intro w'
              go_simp
              try (with_reducible rfl)
            rotate_left
            · simp only [Act.put, List.setIfInBounds_toArray, List.set_cons_zero, List.set_cons_succ, i64_w, i32_w]
              rfl
            refine take_ (i := 18) (N := some 95) (v := .int .i64 a) (a' := ?_) #[true, true, true, true, true, true, true, true, true, true, true, true, true, true, true, true, true, true, true, true, false, false, false, false, false, false, false, false, false, false, false, false, false, false, false, false] rfl rfl (by kernel_rfl) (fun _ _ _ h => h) (Or.inl ⟨by rfl, ?_⟩) (⟨x1, x2, z1, z2, hvx, hvy⟩) ?_ ?_
            · intro w' hSw
              (try dsimp only at hSw)
              go_simp
              try (with_reducible rfl)
            rotate_left
            · simp only [Act.put, List.setIfInBounds_toArray, List.set_cons_zero, List.set_cons_succ, i64_w, i32_w]
              rfl
            refine take_ (i := 20) (N := some 97) (v := .int .i64 l) (a' := ?_) #[true, true, true, true, true, true, true, true, true, true, true, true, true, true, true, true, true, true, true, true, true, false, false, false, false, false, false, false, false, false, false, false, false, false, false, false] rfl rfl (by kernel_rfl) (fun _ _ _ h => h) (Or.inl ⟨by rfl, ?_⟩) (⟨x1, x2, z1, z2, hvx, hvy⟩) ?_ ?_
            · intro w' hSw
              (try dsimp only at hSw)
              go_simp
              try (with_reducible rfl)
            rotate_left
            · simp only [Act.put, List.setIfInBounds_toArray, List.set_cons_zero, List.set_cons_succ, i64_w, i32_w]
              rfl
            refine pure_ (i := 21) (N := some 98) (v := .int .i64 (a - l)) (a' := ?_) #[true, true, true, true, true, true, true, true, true, true, true, true, true, true, true, true, true, true, true, true, true, true, false, false, false, false, false, false, false, false, false, false, false, false, false, false] rfl rfl (by kernel_rfl) (fun _ _ _ h => h) (Or.inl ⟨by rfl, ?_⟩) ?_ ?_
            · intro w'
              go_simp
              try (with_reducible rfl)
            rotate_left
            · simp only [Act.put, List.setIfInBounds_toArray, List.set_cons_zero, List.set_cons_succ, i64_w, i32_w]
              rfl
            refine pure_ (i := 22) (N := some 99) (v := .bool false) (a' := ?_) #[true, true, true, true, true, true, true, true, true, true, true, true, true, true, true, true, true, true, true, true, true, true, true, false, false, false, false, false, false, false, false, false, false, false, false, false] rfl rfl (by kernel_rfl) (fun _ _ _ h => h) (Or.inl ⟨by rfl, ?_⟩) ?_ ?_
            · intro w'
              go_simp
              try (with_reducible rfl)
            rotate_left
            · simp only [Act.put, List.setIfInBounds_toArray, List.set_cons_zero, List.set_cons_succ, i64_w, i32_w]
              rfl
            refine pure_ (i := 23) (N := some 100) (v := ?_) (a' := ?_) #[true, true, true, true, true, true, true, true, true, true, true, true, true, true, true, true, true, true, true, true, true, true, true, true, false, false, false, false, false, false, false, false, false, false, false, false] rfl rfl (by kernel_rfl) (fun _ _ _ h => h) (Or.inl ⟨by rfl, ?_⟩) ?_ ?_
            rotate_left
            · intro w'
              go_simp
              with_reducible rfl
            rotate_left
            · simp only [Act.put, List.setIfInBounds_toArray, List.set_cons_zero, List.set_cons_succ, i64_w, i32_w]
              rfl
            refine pure_ (i := 24) (N := some 101) (v := undef) (a' := ?_) #[true, true, true, true, true, true, true, true, true, true, true, true, true, true, true, true, true, true, true, true, true, true, true, true, true, false, false, false, false, false, false, false, false, false, false, false] rfl rfl (by kernel_rfl) (fun _ _ _ h => h) (Or.inr ⟨by rfl, rfl⟩) ?_ ?_
            rotate_left
            · simp only [Act.put, List.setIfInBounds_toArray, List.set_cons_zero, List.set_cons_succ, i64_w, i32_w]
              rfl
            refine pure_ (i := 25) (N := some 102) (v := undef) (a' := ?_) #[true, true, true, true, true, true, true, true, true, true, true, true, true, true, true, true, true, true, true, true, true, true, true, true, true, true, false, false, false, false, false, false, false, false, false, false] rfl rfl (by kernel_rfl) (fun _ _ _ h => h) (Or.inr ⟨by rfl, rfl⟩) ?_ ?_
            rotate_left
            · simp only [Act.put, List.setIfInBounds_toArray, List.set_cons_zero, List.set_cons_succ, i64_w, i32_w]
              rfl
            refine pure_ (i := 26) (N := some 103) (v := undef) (a' := ?_) #[true, true, true, true, true, true, true, true, true, true, true, true, true, true, true, true, true, true, true, true, true, true, true, true, true, true, true, false, false, false, false, false, false, false, false, false] rfl rfl (by kernel_rfl) (fun _ _ _ h => h) (Or.inr ⟨by rfl, rfl⟩) ?_ ?_
            rotate_left
            · simp only [Act.put, List.setIfInBounds_toArray, List.set_cons_zero, List.set_cons_succ, i64_w, i32_w]
              rfl
            refine pure_ (i := 27) (N := some 104) (v := undef) (a' := ?_) #[true, true, true, true, true, true, true, true, true, true, true, true, true, true, true, true, true, true, true, true, true, true, true, true, true, true, true, true, false, false, false, false, false, false, false, false] rfl rfl (by kernel_rfl) (fun _ _ _ h => h) (Or.inr ⟨by rfl, rfl⟩) ?_ ?_
            rotate_left
            · simp only [Act.put, List.setIfInBounds_toArray, List.set_cons_zero, List.set_cons_succ, i64_w, i32_w]
              rfl
            refine pure_ (i := 28) (N := some 105) (v := undef) (a' := ?_) #[true, true, true, true, true, true, true, true, true, true, true, true, true, true, true, true, true, true, true, true, true, true, true, true, true, true, true, true, true, false, false, false, false, false, false, false] rfl rfl (by kernel_rfl) (fun _ _ _ h => h) (Or.inr ⟨by rfl, rfl⟩) ?_ ?_
            rotate_left
            · simp only [Act.put, List.setIfInBounds_toArray, List.set_cons_zero, List.set_cons_succ, i64_w, i32_w]
              rfl
            refine pure_ (i := 29) (N := some 106) (v := undef) (a' := ?_) #[true, true, true, true, true, true, true, true, true, true, true, true, true, true, true, true, true, true, true, true, true, true, true, true, true, true, true, true, true, true, false, false, false, false, false, false] rfl rfl (by kernel_rfl) (fun _ _ _ h => h) (Or.inr ⟨by rfl, rfl⟩) ?_ ?_
            rotate_left
            · simp only [Act.put, List.setIfInBounds_toArray, List.set_cons_zero, List.set_cons_succ, i64_w, i32_w]
              rfl
            refine pure_ (i := 30) (N := some 107) (v := undef) (a' := ?_) #[true, true, true, true, true, true, true, true, true, true, true, true, true, true, true, true, true, true, true, true, true, true, true, true, true, true, true, true, true, true, true, false, false, false, false, false] rfl rfl (by kernel_rfl) (fun _ _ _ h => h) (Or.inr ⟨by rfl, rfl⟩) ?_ ?_
            rotate_left
            · simp only [Act.put, List.setIfInBounds_toArray, List.set_cons_zero, List.set_cons_succ, i64_w, i32_w]
              rfl
            refine pure_ (i := 31) (N := some 108) (v := undef) (a' := ?_) #[true, true, true, true, true, true, true, true, true, true, true, true, true, true, true, true, true, true, true, true, true, true, true, true, true, true, true, true, true, true, true, true, false, false, false, false] rfl rfl (by kernel_rfl) (fun _ _ _ h => h) (Or.inr ⟨by rfl, rfl⟩) ?_ ?_
            rotate_left
            · simp only [Act.put, List.setIfInBounds_toArray, List.set_cons_zero, List.set_cons_succ, i64_w, i32_w]
              rfl
            refine pure_ (i := 32) (N := some 109) (v := undef) (a' := ?_) #[true, true, true, true, true, true, true, true, true, true, true, true, true, true, true, true, true, true, true, true, true, true, true, true, true, true, true, true, true, true, true, true, true, false, false, false] rfl rfl (by kernel_rfl) (fun _ _ _ h => h) (Or.inr ⟨by rfl, rfl⟩) ?_ ?_
            rotate_left
            · simp only [Act.put, List.setIfInBounds_toArray, List.set_cons_zero, List.set_cons_succ, i64_w, i32_w]
              rfl
            refine pure_ (i := 33) (N := some 110) (v := undef) (a' := ?_) #[true, true, true, true, true, true, true, true, true, true, true, true, true, true, true, true, true, true, true, true, true, true, true, true, true, true, true, true, true, true, true, true, true, true, false, false] rfl rfl (by kernel_rfl) (fun _ _ _ h => h) (Or.inr ⟨by rfl, rfl⟩) ?_ ?_
            rotate_left
            · simp only [Act.put, List.setIfInBounds_toArray, List.set_cons_zero, List.set_cons_succ, i64_w, i32_w]
              rfl
            refine pure_ (i := 34) (N := some 111) (v := ?_) (a' := ?_) #[true, true, true, true, true, true, true, true, true, true, true, true, true, true, true, true, true, true, true, true, true, true, true, true, true, true, true, true, true, true, true, true, true, true, true, false] rfl rfl (by kernel_rfl) (fun _ _ _ h => h) (Or.inl ⟨by rfl, ?_⟩) ?_ ?_
            rotate_left
            · intro w'
              go_simp
              with_reducible rfl
            rotate_left
            · simp only [Act.put, List.setIfInBounds_toArray, List.set_cons_zero, List.set_cons_succ, i64_w, i32_w]
              rfl
            refine pure_ (i := 35) (N := some 112) (v := ?_) (a' := ?_) #[true, true, true, true, true, true, true, true, true, true, true, true, true, true, true, true, true, true, true, true, true, true, true, true, true, true, true, true, true, true, true, true, true, true, true, true] rfl rfl (by kernel_rfl) (fun _ _ _ h => h) (Or.inl ⟨by rfl, ?_⟩) ?_ ?_
            rotate_left
            · intro w'
              go_simp
              with_reducible rfl
            rotate_left
            · simp only [Act.put, List.setIfInBounds_toArray, List.set_cons_zero, List.set_cons_succ, i64_w, i32_w]
              rfl
            refine done_ (by kernel_rfl) ?_
            go_wp2
            go_roundw
            case rel => exact ⟨k + 1, by have := HKn.out; omega, by go_num, ⟨bdr HW4.out⟩⟩
            case measure => have := HKn.out; simp [intOf]; omega
      · obtain rfl : k = nv := by omega
        have HW2 := HW
        have j1 : ¬ (k : Int) < (k : Int) := by omega
        go_wp2
        go_loopw [16, 17] (fun n i wz => ∃ j : Nat, j ≤ M ∧ n = .int .i64 (vcK use L j) ∧ i = .int .i64 j ∧ Aside0 (Below w2.heap.size w2 wz)) (fun _ i _ => M - (intOf i).toNat)
        case atStart => exact ⟨0, by omega, rfl, rfl, HW2⟩
        case round =>
          clear HW
          obtain ⟨k, hk, rfl, rfl, HW⟩ := hrel
          by_cases hlt : k < M
          · have hkl : k < L.length := by rw [HMM.out]; exact hlt
            have HBk := Aside0.mk (show ∀ W, Below w2.heap.size w2 W → _ from fun W hb => HBlk.out W hb k hkl)
            have hvn : vcK use L (k + 1) = vcK use L k + if isV use (L.getD k zRw) then 1 else 0 := rfl
            have hvr := vc_range use L k
            obtain ⟨⟨u, a, l, c⟩, hx⟩ : ∃ x, L.getD k zRw = x := ⟨_, rfl⟩
            rw [hx] at HBk hvn
            obtain ⟨cv, hcv⟩ : ∃ c, vcK use L k = c := ⟨_, rfl⟩
            rw [hcv] at hvn hvr ⊢
            have HVw := Aside0.mk (w64 (n := cv + 1) (by omega) (by omega))
            have k1 : (k : Int) < (M : Int) := by omega
            clear hx hcv hvr hkl
            by_cases e1 : u = use
            · subst e1
              by_cases e2 : 0 < u
              · cases c with
                | false =>
                  have HVk := Aside0.mk (show vcK u L (k + 1) = cv by rw [hvn, if_neg (fun h => by have := h.2.2.1; cases this)]; omega)
                  clear hvn
                  go_wp2_with ((go_at_call 18; (with_reducible refine (HBk.out _ HW.out).mono ?_); rintro e w6 ⟨rfl, hb⟩; dsimp only; have HW6 := Aside0.mk (below_alloc (btr HW.out hb) (.cells #[.int .i64 u, .int .i64 a, .int .i64 l, .bool false] 36)); have hk2 := blk_new w6 (.cells #[.int .i64 u, .int .i64 a, .int .i64 l, .bool false] 36); have y0 := cell_blk (i := 0) hk2 rfl; have y1 := cell_blk (i := 1) hk2 rfl; have y2 := cell_blk (i := 2) hk2 rfl; have y3 := cell_blk (i := 3) hk2 rfl; clear hb))
                  go_roundw
                  case rel => exact ⟨k + 1, by omega, by rw [HVk.out], by go_num, HW6⟩
                  case measure => simp [intOf]; omega
                | true =>
                  by_cases e4 : l < a
                  · have HVk := Aside0.mk (show vcK u L (k + 1) = cv + 1 by rw [hvn, if_pos ⟨rfl, e2, rfl, e4⟩])
                    have vw := HVw.out
                    clear hvn
                    go_wp2_with ((go_at_call 18; (with_reducible refine (HBk.out _ HW.out).mono ?_); rintro e w6 ⟨rfl, hb⟩; dsimp only; have HW6 := Aside0.mk (below_alloc (btr HW.out hb) (.cells #[.int .i64 u, .int .i64 a, .int .i64 l, .bool true] 36)); have hk2 := blk_new w6 (.cells #[.int .i64 u, .int .i64 a, .int .i64 l, .bool true] 36); have y0 := cell_blk (i := 0) hk2 rfl; have y1 := cell_blk (i := 1) hk2 rfl; have y2 := cell_blk (i := 2) hk2 rfl; have y3 := cell_blk (i := 3) hk2 rfl; clear hb))
                    go_roundw
                    case rel => exact ⟨k + 1, by omega, by rw [HVk.out, HVw.out], by go_num, HW6⟩
                    case measure => simp [intOf]; omega
                  · have HVk := Aside0.mk (show vcK u L (k + 1) = cv by rw [hvn, if_neg (fun h => e4 h.2.2.2)]; omega)
                    clear hvn
                    go_wp2_with ((go_at_call 18; (with_reducible refine (HBk.out _ HW.out).mono ?_); rintro e w6 ⟨rfl, hb⟩; dsimp only; have HW6 := Aside0.mk (below_alloc (btr HW.out hb) (.cells #[.int .i64 u, .int .i64 a, .int .i64 l, .bool true] 36)); have hk2 := blk_new w6 (.cells #[.int .i64 u, .int .i64 a, .int .i64 l, .bool true] 36); have y0 := cell_blk (i := 0) hk2 rfl; have y1 := cell_blk (i := 1) hk2 rfl; have y2 := cell_blk (i := 2) hk2 rfl; have y3 := cell_blk (i := 3) hk2 rfl; clear hb))
                    go_roundw
                    case rel => exact ⟨k + 1, by omega, by rw [HVk.out], by go_num, HW6⟩
                    case measure => simp [intOf]; omega
              · have HVk := Aside0.mk (show vcK u L (k + 1) = cv by rw [hvn, if_neg (fun h => e2 h.2.1)]; omega)
                clear hvn
                go_wp2_with ((go_at_call 18; (with_reducible refine (HBk.out _ HW.out).mono ?_); rintro e w6 ⟨rfl, hb⟩; dsimp only; have HW6 := Aside0.mk (below_alloc (btr HW.out hb) (.cells #[.int .i64 u, .int .i64 a, .int .i64 l, .bool c] 36)); have hk2 := blk_new w6 (.cells #[.int .i64 u, .int .i64 a, .int .i64 l, .bool c] 36); have y0 := cell_blk (i := 0) hk2 rfl; have y1 := cell_blk (i := 1) hk2 rfl; have y2 := cell_blk (i := 2) hk2 rfl; have y3 := cell_blk (i := 3) hk2 rfl; clear hb))
                go_roundw
                case rel => exact ⟨k + 1, by omega, by rw [HVk.out], by go_num, HW6⟩
                case measure => simp [intOf]; omega
            · have HVk := Aside0.mk (show vcK use L (k + 1) = cv by rw [hvn, if_neg (fun h => e1 h.1)]; omega)
              have e1' : (u == use) = false := beq_eq_false_iff_ne.2 e1
              clear hvn
              go_wp2_with ((go_at_call 18; (with_reducible refine (HBk.out _ HW.out).mono ?_); rintro e w6 ⟨rfl, hb⟩; dsimp only; have HW6 := Aside0.mk (below_alloc (btr HW.out hb) (.cells #[.int .i64 u, .int .i64 a, .int .i64 l, .bool c] 36)); have hk2 := blk_new w6 (.cells #[.int .i64 u, .int .i64 a, .int .i64 l, .bool c] 36); have y0 := cell_blk (i := 0) hk2 rfl; have y1 := cell_blk (i := 1) hk2 rfl; have y2 := cell_blk (i := 2) hk2 rfl; have y3 := cell_blk (i := 3) hk2 rfl; clear hb))
              go_roundw
              case rel => exact ⟨k + 1, by omega, by rw [HVk.out], by go_num, HW6⟩
              case measure => simp [intOf]; omega
          · obtain rfl : k = M := by omega
            have k1 : ¬ (k : Int) < (k : Int) := by omega
            have HBz := Aside0.mk (btr HBw.out HW.out)
            have hv := HVl.out.symm
            rw [hv]
            clear hv
            go_wp2_with ((go_at_call 10; (with_reducible refine (alive_calls _ (HL.out.on HBz.out)).mono ?_); rintro e w9 ⟨rfl, hb9⟩; have HB9 := Aside0.mk (btr HBz.out hb9); clear hb9))
            go_ret
            exact ⟨by simp, HB9.out⟩
end Go.Proofs.YtlpnggaeepjjfaaGreatDoor.Bo
namespace Go.Proofs.YtlpnggaeepjjfaaGreatDoor.Q
open Go.RowKit Go.Proofs.YtlpnggaeepjjfaaGreatDoorW.PrintWords Go.Proofs.YtlpnggaeepjjfaaGreatDoor.Bo
set_option linter.unusedVariables false
def pumicelaw14_PropsVictims.f (a0 a1 : Int) (l2 : List S24) (a3 : Int) : Option Bool := if l2.length ≤ 8796093022208 then some true else none
theorem pumicelaw14_PropsVictims.calls (a0 a1 : Int) (A2 : Option Addr) (c2 : Nat) (l2 : List S24) (a3 : Int) (r : Bool) (w : World) (hL : Lw w) (hr2 : Kd.C k24 w A2 l2.length l2) (hc2 : l2.length ≤ c2) (h : pumicelaw14_PropsVictims.f a0 a1 l2 a3 = some r) :
    Calls Tryz.prog 4 #[.int .i64 a0, .int .i64 a1, .slice A2 l2.length c2, .int .i64 a3] w fun e w' => e = .returned (.bool r) ∧ Below w.heap.size w w' := by
  unfold pumicelaw14_PropsVictims.f at h
  split at h
  · rename_i hl
    cases h
    exact victims_walk a0 a1 A2 c2 l2 a3 w hL hr2 hc2 hl
  · cases h
end Go.Proofs.YtlpnggaeepjjfaaGreatDoor.Q

namespace Go.Proofs.YtlpnggaeepjjfaaGreatDoor.propsVictims
open Go.ChangeShapes Go.WideShapes Go.ChangeAt Go.RowKit Go.Proofs.YtlpnggaeepjjfaaGreatDoorW.PrintWords Go.Proofs.YtlpnggaeepjjfaaGreatDoor.Q
open Go.ChangeMaps (open_string shut_string)
set_option linter.unusedVariables false
set_option linter.unusedSimpArgs false
theorem own : ownKnob Tryz.prog.godebug = none := by kernel_rfl
theorem laidOut : laidOutB Tryz.prog = true := by kernel_rfl
def dat24 {H : Type} : S24 → DataW H := fun x : S24 => (.agg [.lit (.int .i64 x.f0), .lit (.int .i64 x.f1), .lit (.int .i64 x.f2)] : DataW H)
def ok24 (x : S24) : Prop := (Lit.int .i64 x.f0).wf = true ∧ (Lit.int .i64 x.f1).wf = true ∧ (Lit.int .i64 x.f2).wf = true
theorem el24 {H : Type} {enc : TypeId × Value → H} {W : World} : ∀ fuel cs (x : DataW H × List MemPlace), DataW.trod enc Tryz.prog W 0 (fun _ => true) true fuel 24 cs = some x → ∃ a : S24, Kd.K k24 W a cs ∧ x.1 = dat24 a ∧ ok24 a := by
  intro fuel cs x h
  obtain ⟨ys, n, hd, hyl, hcl, hfs⟩ := R0.struct_fields Tryz.underlying24 (by kernel_rfl) (by kernel_rfl) h
  obtain ⟨c0, y0, hc0, hy0, ht0⟩ := hfs 0 _ rfl
  obtain ⟨a0, rfl, hd0, w0⟩ := R0.int_cell Tryz.underlying3 ht0
  obtain ⟨c1, y1, hc1, hy1, ht1⟩ := hfs 1 _ rfl
  obtain ⟨a1, rfl, hd1, w1⟩ := R0.int_cell Tryz.underlying3 ht1
  obtain ⟨c2, y2, hc2, hy2, ht2⟩ := hfs 2 _ rfl
  obtain ⟨a2, rfl, hd2, w2⟩ := R0.int_cell Tryz.underlying3 ht2
  obtain rfl := R0.list3 hcl hc0 hc1 hc2
  obtain rfl := R0.list3 hyl hy0 hy1 hy2
  refine ⟨⟨a0, a1, a2⟩, k24_mk _ _, ?_, ⟨w0, w1, w2⟩⟩
  rw [hd]
  simp only [List.map_cons, List.map_nil, hd0, hd1, hd2]
  rfl
set_option maxRecDepth 100000 in
set_option maxHeartbeats 1600000 in
theorem contract (H : Type) (enc : TypeId × Value → H) (W : World) (base : Nat) (args : Array Value) (ds gs : List (DataW H)) (before : List MemPlace)
    (hval0 : ∀ (j : Nat) t v, Tryz.f4.params[j]? = some t → args[j]? = some v → Value.okWide Tryz.prog W .any base t v)
    (hW : DataW.Whole enc Tryz.prog Tryz.f4.params.toList Rows.propsVictimsSpec.vars false W args.toList ds gs before) (hsz0 : (DataW.weightsEach Tryz.prog (Tryz.f4.params.toList ++ Rows.propsVictimsSpec.plain.varTypes Tryz.prog) (ds ++ gs)).all (· ≤ reachBytes) = true) (hL : laidMetH Tryz.prog As.rowLaid W) (hSh : W.ShapedOpen Tryz.prog) :
    Calls Tryz.prog 4 args W fun e W' => ∃ v, e = .returned v ∧ Rows.propsVictimsSpec.post enc Tryz.prog Tryz.f4 false true false false W args v W' := by
  have hsz : (DataW.weightsEach Tryz.prog (Tryz.f4.params.toList ++ Rows.propsVictimsSpec.plain.varTypes Tryz.prog) (ds ++ gs)).all (· ≤ reachBytes) = true := hsz0
  have hval : ∀ (j : Nat) t v, Tryz.f4.params[j]? = some t → args[j]? = some v → Value.okWide Tryz.prog W .any base t v := hval0
  have hW' := hW
  obtain ⟨p, q, hA0, hV, rfl, hfz, hnd⟩ := hW
  have hA : DataW.TrodAll enc Tryz.prog W 0 (fun _ => true) true Tryz.f4.params.toList args.toList ds p := hA0
  rw [Tryz.params4] at hA hval hsz
  obtain ⟨v0, vs0, d0, ds0, p0, q0, hargs, rfl, rfl, h0, r0⟩ := trodAll_cons hA
  obtain ⟨v1, vs1, d1, ds1, p1, q1, rfl, rfl, rfl, h1, r1⟩ := trodAll_cons r0
  obtain ⟨v2, vs2, d2, ds2, p2, q2, rfl, rfl, rfl, h2, r2⟩ := trodAll_cons r1
  obtain ⟨v3, vs3, d3, ds3, p3, q3, rfl, rfl, rfl, h3, r3⟩ := trodAll_cons r2
  obtain ⟨rfl, rfl, rfl⟩ := trodAll_nil r3
  obtain rfl : args = #[v0, v1, v2, v3] := by cases args; simp_all
  obtain ⟨rfl, rfl⟩ := trodVars_none hV
  have k0 := h0
  have lt0 : ∀ x ∈ p0, x.block < W.heap.size := by obtain ⟨m, hm⟩ := k0; exact DataW.trod_lt m _ _ _ hm
  obtain ⟨a0, rfl, rfl, rfl, w0⟩ := open_int Tryz.underlying3 (hval 0 3 v0 rfl rfl) h0
  have k1 := h1
  have lt1 : ∀ x ∈ p1, x.block < W.heap.size := by obtain ⟨m, hm⟩ := k1; exact DataW.trod_lt m _ _ _ hm
  obtain ⟨a1, rfl, rfl, rfl, w1⟩ := open_int Tryz.underlying3 (hval 1 3 v1 rfl rfl) h1
  have k2 := h2
  have lt2 : ∀ x ∈ p2, x.block < W.heap.size := by obtain ⟨m, hm⟩ := k2; exact DataW.trod_lt m _ _ _ hm
  obtain ⟨A2, l2, c2, sp2, rfl, hc2, hr2, hd2, o2⟩ := R0.slice_open k24 dat24 ok24 Tryz.underlying22 (by kernel_rfl) el24 (hval 2 22 v2 rfl rfl) h2
  have m2 : l2.length * Tryz.prog.bytesOf 24 ≤ 140737488351232 := by
    rcases hd2 with ⟨hD, hl⟩ | hD
    · rw [hl]; simp
    · have q := hsz
      rw [hD] at q
      have q1 := R0.sized_len q (j := 2) (t := 22) rfl rfl Tryz.underlying22
      simpa using q1
  have k3 := h3
  have lt3 : ∀ x ∈ p3, x.block < W.heap.size := by obtain ⟨m, hm⟩ := k3; exact DataW.trod_lt m _ _ _ hm
  obtain ⟨a3, rfl, rfl, rfl, w3⟩ := open_int Tryz.underlying3 (hval 3 3 v3 rfl rfl) h3
  clear hA0 hval0 hsz0 hsz
  have hpure := (show Q.pumicelaw14_PropsVictims.f a0 a1 l2 a3 = some true from if_pos (by have h_ := m2; have hb_ : Tryz.prog.bytesOf 24 = 24 := (by kernel_rfl); rw [hb_] at h_; omega))
  refine (Q.pumicelaw14_PropsVictims.calls a0 a1 _ _ l2 a3 true W (As.laid_of_row hL hSh) hr2 hc2 hpure).mono fun e W' ⟨he, bel0⟩ => ?_
  have bel : Below W.heap.size W W' := bel0
  subst he
  exact ⟨_, rfl, _, _, _, [], _, [], hW', trodAll_mk1 (shut_bool Tryz.underlying4 _), (trodAll_cons_mk (Below.trod laidOut (by kernel_rfl) (of_decide_eq_true (by kernel_rfl)) k0 bel lt0) (trodAll_cons_mk (Below.trod laidOut (by kernel_rfl) (of_decide_eq_true (by kernel_rfl)) k1 bel lt1) (trodAll_cons_mk (Below.trod laidOut (by kernel_rfl) (of_decide_eq_true (by kernel_rfl)) k2 bel lt2) (trodAll_cons_mk (Below.trod laidOut (by kernel_rfl) (of_decide_eq_true (by kernel_rfl)) k3 bel lt3) trodAll_mk0)))), rfl, bel.frame _, fun h => by cases h⟩
set_option maxRecDepth 100000 in
theorem lifted (os : Os) (started : os.Started) (H : Type) (enc : TypeId × Value → H) :
    ReturnsInHanded {} Tryz.checked os 4 .any (fun w args => (Rows.propsVictimsSpec.pre enc Tryz.prog Tryz.f4 [] false w args ∧ laidMetH Tryz.prog As.rowLaid w) ∧ sizedMet enc Tryz.prog Tryz.f4 (OpenSpec.ofChange Rows.propsVictimsSpec) false w args) (Rows.propsVictimsSpec.post enc Tryz.prog Tryz.f4 false true false false) := by
  refine As.change_and_shaped (C := Tryz.checked) (X := (fun w _ => laidMetH Tryz.prog As.rowLaid w)) (fun _ _ _ hh h => h.of_heap hh) own started (by kernel_rfl) Tryz.func4
    (ChangeSpec.witness_at (enc := enc) (C := Tryz.checked) (os := os) (X := (fun w _ => laidMetH Tryz.prog As.rowLaid w)) false (As.laidWorld os) #[.int .i64 0, .int .i64 0, .slice none 0 0, .int .i64 0] 8 rfl (by kernel_rfl) (by kernel_rfl) (by kernel_rfl) (by kernel_rfl) (by kernel_rfl) (As.laidWorld_met os _)) ?_
  intro W base args ds gs before hval hW _ hsz hL hSh _
  exact contract H enc W base args ds gs before hval hW hsz hL hSh
theorem over : Rows.propsVictimsRow.holds Tryz.pinned (OpenSpec.ofChange Rows.propsVictimsSpec) :=
  OpenClaim.holds_of_wide 4 Tryz.f4 rfl rfl rfl rfl rfl rfl rfl ⟨rfl, rfl, rfl, rfl, rfl⟩ rfl rfl rfl rfl rfl (by kernel_rfl) Tryz.func4 (by kernel_rfl)
    (of_decide_eq_true (by kernel_rfl)) (by unfold Func.isWrapper; first | (rw [if_pos (by decide +kernel)]; kernel_rfl) | (rw [if_neg (by decide +kernel)]; exact ⟨rfl, rfl⟩))
    (fun os started H enc _ => lifted os started H enc)
theorem card : Rows.PropsVictimsCardSaid :=
  Claim7.holds_tied_plain_at .later [] [.data, .data, .data, .data, .sentinel, .sentinel, .pinned] true (true, "5073e521733e0d4aadbd2993afe9d363fc5f3ed24e86c13892bea69a8cccabd3") true
    over (fun _ h => by cases h) (by kernel_rfl) (fun _ h => by cases h) propsVictims_row_tie rfl ⟨rfl, rfl⟩ (by kernel_rfl) rfl
    (fun f fn hf hfn => by
      obtain rfl : f = 4 := Option.some.inj ((show Tryz.prog.funcNamed "pumice/pumicelaw14.PropsVictims" = some 4 by kernel_rfl).symm.trans hf) |>.symm
      obtain rfl : fn = Tryz.f4 := (Option.some.inj (Tryz.func4.symm.trans hfn)).symm
      exact ⟨by kernel_rfl, fun j t ht => by
        rw [Tryz.params4] at ht
        have hm := Array.mem_of_getElem? ht
        simp only [List.mem_toArray, List.mem_cons, List.not_mem_nil, or_false] at hm
        rcases hm with rfl | rfl | rfl | rfl
        · exact (show Tryz.prog.wantsStandIn 3 = false by kernel_rfl)
        · exact (show Tryz.prog.wantsStandIn 3 = false by kernel_rfl)
        · exact (show Tryz.prog.wantsStandIn 22 = false by kernel_rfl)
        · exact (show Tryz.prog.wantsStandIn 3 = false by kernel_rfl)⟩)
    (by kernel_rfl)
end Go.Proofs.YtlpnggaeepjjfaaGreatDoor.propsVictims
namespace Go.Proofs.YtlpnggaeepjjfaaGreatDoor
/-- The row. -/
theorem propsVictims_holds : Rows.PropsVictimsCardSaid := propsVictims.card
#print axioms propsVictims_holds
end Go.Proofs.YtlpnggaeepjjfaaGreatDoor
