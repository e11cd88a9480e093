/- H8, H9, H10, H11, Ly, Z0, Z1, H12, P3, P4, H13, H14, H15, A2, A0, Ly2, H16, H17, H18, P5, A3 -/
import Derived.Shelf.Strings.BuilderK
import Derived.Shelf.Strings.Split
import Derived.Shelf.Small.Wraps
import Derived.Shelf.Strconv.Itoa3
import Derived.Test.YtlpnggaeepjjfaaGreatDoorProg
import Derived.Below
import Derived.Deep.Draws
import Derived.Deep.AppendLies
import Derived.Maps.AppendAt
import Derived.OwnWalk
import Derived.Laws.BytesArg
import Derived.Laws.MakeOwn
import Derived.Laws.OwnMore
import Derived.Deep.OwnRows
import Derived.Tactics
import Derived.Lib.ConvBytes
import Derived.Laws.Slices
import Derived.WalkKit
import Derived.KernelRfl
import Derived.RowKit3
import Derived.Deep.LoopGhost
import Derived.Deep.QuietTactic
import Derived.BigQuiet
import Derived.WideLaws
import Derived.Deep.DeepCutAuto
import Derived.Deep.CutBlock
import Derived.Deep.RegionHeld3
import Derived.Laws.Rows
import Derived.Lib.AppendStr
import Derived.ArgAppend
import Derived.Laws.IdiomCopy
import Derived.OrdersHeld
import Derived.Laws.BitsLemmas
import Derived.RowKit
import Derived.Lib.OthersKept
import Derived.Lib.LaidTab
import Derived.Lib.ItoaNum
import Derived.Shelf.Strconv.ErrVarAll
import Derived.Maps.OwnIn
import Derived.RegionIn
import Derived.Lib.AtoiTie
import Derived.Lib.SplitLaws
import Derived.Lib.ItoaMem
import Derived.Shelf.SlSortCmp.NoneTotal
import Derived.IntWalk
import Derived.Laws.EntriesVeiled
import Derived.Test.YtlpnggaeepjjfaaGreatDoorKa
namespace Go.Proofs.YtlpnggaeepjjfaaGreatDoor.Bo
open Go.RowKit Go.Proofs.YtlpnggaeepjjfaaGreatDoorW.PrintWords
set_option linter.unusedVariables false
set_option linter.unusedSimpArgs false
set_option maxRecDepth 100000 in
set_option maxHeartbeats 4000000 in
theorem rnew_err (n size : Int) (W : World) (h : n < 1 ∨ 256 < n ∨ size < 1 ∨ 16777216 < size) :
    Calls Tryz.prog 21 #[.int .i64 n, .int .i64 size] W fun e w' => e = .returned (.tuple #[.pointer none, .int .i64 22]) ∧ w' = W := by
  by_cases h1 : n < 1
  · clear h
    go_enter Tryz.func21, Tryz.ntmps21
    go_wp2
    go_ret2
    exact ⟨rfl, rfl⟩
  · by_cases h2 : 256 < n
    · clear h
      go_enter Tryz.func21, Tryz.ntmps21
      go_wp2
      go_ret2
      exact ⟨rfl, rfl⟩
    · by_cases h3 : size < 1
      · clear h
        go_enter Tryz.func21, Tryz.ntmps21
        go_wp2
        go_ret2
        exact ⟨rfl, rfl⟩
      · have h4 : 16777216 < size := by omega
        clear h
        go_enter Tryz.func21, Tryz.ntmps21
        go_wp2
        go_ret2
        exact ⟨rfl, rfl⟩
theorem info89 : (Tryz.prog.info? 89).map (fun i => (i.zero, i.size, i.bytes)) = some (some (.agg #[.int .i64 0, .int .i64 0, .int .i64 0, .bool false]), 4, 32) := by kernel_rfl
theorem make89 (n : Nat) (hn : n ≤ 256) (W : World) : (Instr.makeSlice 86 (.int .i64 (n : Int)) (.int .i64 (n : Int))).run Tryz.prog W = .ok (.slice (some ⟨W.heap.size, 0, none⟩) n n) (W.alloc (.cells (flat (List.replicate n zRw)).toArray 89)) := by
  obtain ⟨i0, hi, hz0, hz1, hz2⟩ := info_parts info89
  have h := run_makeSlice (w := W ) 86 89 i0 _ Tryz.underlying86 hi hz0 .i64 .i64 (n : Int) (n : Int) (by omega) (by omega) (by rw [hz1]; omega) (by rw [hz2]; omega) (by omega)
  rw [hz1, Int.toNat_natCast] at h
  have e : (Value.agg #[Value.int .i64 0, Value.int .i64 0, Value.int .i64 0, Value.bool false]).cells = #[.int .i64 0, .int .i64 0, .int .i64 0, .bool false] := rfl
  rw [e, made_flat] at h
  exact h
set_option maxRecDepth 100000 in
set_option maxHeartbeats 4000000 in
theorem rnew_ok (n : Nat) (size : Int) (W : World) (h1 : 1 ≤ n) (h2 : n ≤ 256) (h3 : 1 ≤ size) (h4 : size ≤ 16777216) :
    Calls Tryz.prog 21 #[.int .i64 (n : Int), .int .i64 size] W fun e w' => e = .returned (.tuple #[.pointer (some ⟨W.heap.size + 1, 0, none⟩), .int .i64 0]) ∧ Bk 88 89 w' (W.heap.size + 1) W.heap.size size (List.replicate n zRw) ∧ Below W.heap.size W w' := by
  have i1 : ¬ (n : Int) < 1 := by omega
  have i2 : ¬ 256 < (n : Int) := by omega
  have i3 : ¬ size < 1 := by omega
  have i4 : ¬ 16777216 < size := by omega
  have i5 : (0 : Int) ≤ (n : Int) := by omega
  have hmk := make89 n h2
  obtain ⟨F, hF⟩ : ∃ F, (flat (List.replicate n zRw)).toArray = F := ⟨_, rfl⟩
  rw [hF] at hmk
  have HF := Aside0.mk hF
  clear hF
  go_enter Tryz.func21, Tryz.ntmps21
  go_wp2
  go_ret2
  have hb := blk_new (W.alloc (.cells F 89)) (.cells #[.int .i64 size, .slice (some ⟨W.heap.size, 0, none⟩) n n] 88)
  rw [World.size_alloc] at hb
  refine ⟨rfl, ⟨?_, ?_, by omega⟩, ((Below.refl _ W).alloc (Nat.le_refl _) _).alloc (by rw [World.size_alloc]; omega) _⟩
  · rw [List.length_replicate]
    exact hb
  · rw [HF.out]
    exact blk_alloc (blk_new W _) _
section
variable {W : World} {b q : Nat} {size : Int} {L : List Rw}
set_option maxRecDepth 100000 in
set_option maxHeartbeats 4000000 in
theorem rblock_calls (S : Bk 88 89 W b q size L) (leb : Int) :
    Calls Tryz.prog 50 #[.pointer (some ⟨b, 0, none⟩), .int .i64 leb] W (BlockPost W (blockR L leb)) := by
  have hbel := Below.alloc (Below.refl _ W) (Nat.le_refl _) (.cells #[.int .i64 0, .int .i64 0, .int .i64 0, .bool false] 89)
  have S1 := S.on hbel
  have hT := there_calls S1 leb
  unfold blockR
  unfold thereE at hT
  cases ht : there L leb with
  | none =>
    rw [ht] at hT
    clear S ht S1
    go_enter Tryz.func50, Tryz.ntmps50
    go_wp2_with (go_at_call 69; (with_reducible refine hT.mono ?_); rintro e w' ⟨rfl, rfl⟩)
    refine bodyPost_ret (results_ct rfl _ _ W.heap.size 89 #[.int .i64 0, .int .i64 0, .int .i64 0, .bool false] (0, 0) _ rfl (blk_new W _) Tryz.underlying89 rfl (by kernel_rfl)) rfl ?_
    exact ⟨rfl, hbel⟩
  | some i =>
    rw [ht] at hT
    obtain ⟨rfl, hi⟩ := there_some ht
    dsimp only at hT ⊢
    obtain ⟨⟨u, a, v, c⟩, hx⟩ : ∃ x, L.getD i zRw = x := ⟨_, rfl⟩
    obtain ⟨r0, r1, r2, r3⟩ := S1.row (getD_some hi)
    obtain ⟨c0, c1⟩ := S1.book
    obtain ⟨m, hm⟩ : ∃ m, L.length = m := ⟨_, rfl⟩
    rw [hx] at r0 r1 r2 r3 ⊢
    dsimp only at r0 r1 r2 r3 ⊢
    rw [hm] at c1 hi
    have i1 : (i : Int) < (m : Int) := by omega
    have i3 : (0 : Int) ≤ (i : Int) := by omega
    clear S ht hx S1
    go_enter Tryz.func50, Tryz.ntmps50
    go_wp2_with (go_at_call 69; (with_reducible refine hT.mono ?_); rintro e w' ⟨rfl, rfl⟩)
    refine bodyPost_ret (results_ct rfl _ _ W.heap.size 89 #[.int .i64 u, .int .i64 a, .int .i64 v, .bool c] (0, 0) _ rfl (blk_new W _) Tryz.underlying89 rfl (by kernel_rfl)) rfl ?_
    exact ⟨rfl, Below.alloc (Below.refl _ W) (Nat.le_refl _) _⟩
end
set_option maxRecDepth 100000 in
set_option maxHeartbeats 4000000 in
theorem nil69 (a0 : Int) (W : World) : Calls Tryz.prog 69 #[.pointer none, .int .i64 a0] W fun e w' => e = .returned (.int .i64 14) ∧ w' = W := by
  go_enter Tryz.func69, Tryz.ntmps69
  go_wp2
  go_ret
  exact ⟨rfl, rfl⟩
set_option maxRecDepth 100000 in
set_option maxHeartbeats 4000000 in
theorem nil70 (a0 a1 : Int) (W : World) : Calls Tryz.prog 70 #[.pointer none, .int .i64 a0, .int .i64 a1] W fun e w' => e = .returned (.int .i64 14) ∧ w' = W := by
  have hT := nil69 a0 W
  go_enter Tryz.func70, Tryz.ntmps70
  go_wp2_with (go_at_call 69; (with_reducible refine hT.mono ?_); rintro e w' ⟨rfl, rfl⟩)
  go_ret
  exact ⟨rfl, rfl⟩
set_option maxRecDepth 100000 in
set_option maxHeartbeats 4000000 in
theorem nil45 (a0 a1 : Int) (W : World) : Calls Tryz.prog 45 #[.pointer none, .int .i64 a0, .int .i64 a1] W fun e w' => e = .returned (.int .i64 14) ∧ w' = W := by
  have hT := nil69 a0 W
  go_enter Tryz.func45, Tryz.ntmps45
  go_wp2_with (go_at_call 69; (with_reducible refine hT.mono ?_); rintro e w' ⟨rfl, rfl⟩)
  go_ret
  exact ⟨rfl, rfl⟩
set_option maxRecDepth 100000 in
set_option maxHeartbeats 4000000 in
theorem nil49 (a0 : Int) (W : World) : Calls Tryz.prog 49 #[.pointer none, .int .i64 a0] W fun e w' => e = .returned (.int .i64 14) ∧ w' = W := by
  have hT := nil69 a0 W
  go_enter Tryz.func49, Tryz.ntmps49
  go_wp2_with (go_at_call 69; (with_reducible refine hT.mono ?_); rintro e w' ⟨rfl, rfl⟩)
  go_ret
  exact ⟨rfl, rfl⟩
set_option maxRecDepth 100000 in
set_option maxHeartbeats 4000000 in
theorem nil46 (a0 a1 : Int) (W : World) : Calls Tryz.prog 46 #[.pointer none, .int .i64 a0, .int .i64 a1] W fun e w' => e = .returned (.int .i64 14) ∧ w' = W := by
  have hT := nil70 a0 a1 W
  go_enter Tryz.func46, Tryz.ntmps46
  go_wp2_with (go_at_call 70; (with_reducible refine hT.mono ?_); rintro e w' ⟨rfl, rfl⟩)
  go_ret
  exact ⟨rfl, rfl⟩
set_option maxRecDepth 100000 in
set_option maxHeartbeats 4000000 in
theorem nil47 (a0 a1 : Int) (W : World) : Calls Tryz.prog 47 #[.pointer none, .int .i64 a0, .int .i64 a1] W fun e w' => e = .returned (.int .i64 14) ∧ w' = W := by
  have hT := nil70 a0 a1 W
  go_enter Tryz.func47, Tryz.ntmps47
  go_wp2_with (go_at_call 70; (with_reducible refine hT.mono ?_); rintro e w' ⟨rfl, rfl⟩)
  go_ret
  exact ⟨rfl, rfl⟩
set_option maxRecDepth 100000 in
set_option maxHeartbeats 4000000 in
theorem nil48 (a0 : Int) (W : World) : Calls Tryz.prog 48 #[.pointer none, .int .i64 a0] W fun e w' => e = .returned (.int .i64 14) ∧ w' = W := by
  have hT := nil70 a0 0 W
  go_enter Tryz.func48, Tryz.ntmps48
  go_wp2_with (go_at_call 70; (with_reducible refine hT.mono ?_); rintro e w' ⟨rfl, rfl⟩)
  go_ret
  exact ⟨rfl, rfl⟩
end Go.Proofs.YtlpnggaeepjjfaaGreatDoor.Bo

namespace Go.Proofs.YtlpnggaeepjjfaaGreatDoor.Bo
open Go.RowKit Go.Proofs.YtlpnggaeepjjfaaGreatDoorW.PrintWords Go.Proofs.YtlpnggaeepjjfaaGreatDoorW.PrintLast
set_option linter.unusedVariables false
set_option linter.unusedSimpArgs false
/-- The blocks below k that serve this use. -/
def ofK (use : Int) (L : List Rw) : Nat → List Int
  | 0 => []
  | k + 1 => ofK use L k ++ if (L.getD k zRw).use = use then [(k : Int)] else []
theorem ofK_len (use : Int) (L : List Rw) (k : Nat) : (ofK use L k).length ≤ k := by
  induction k with
  | zero => simp [ofK]
  | succ k ih =>
    rw [ofK, List.length_append]
    split <;> simp <;> omega
def RowPost (w : World) (xs : List Int) (e : Ending) (w' : World) : Prop := ∃ v, e = .returned v ∧ Kd.R (Kd.int .i64) 3 w' w.heap.size (fun _ => True) v xs ∧ Below w.heap.size w w'
section
variable {w : World} {b q : Nat} {size : Int} {L : List Rw}
set_option maxRecDepth 100000 in
set_option maxHeartbeats 4000000 in
theorem those_calls (S : Bk 71 36 w b q size L) (hl : L.length ≤ 256) (use : Int) :
    Calls Tryz.prog 59 #[.pointer (some ⟨b, 0, none⟩), .int .i64 use] w (RowPost w (ofK use L L.length)) := by
  have HS := Aside0.mk S
  have HL := Aside0.mk (ofK_len use L)
  obtain ⟨c0, c1⟩ := S.book
  obtain ⟨m, hm⟩ : ∃ m, L.length = m := ⟨_, rfl⟩
  rw [hm] at c1 hl ⊢
  have HM := Aside0.mk hm
  clear S hm
  go_enter Tryz.func59, Tryz.ntmps59
  go_wp2
  go_loopw [5, 13] (fun out i wr => ∃ (v : Value) (k : Nat), k ≤ m ∧ out = v ∧ i = .int .i64 k ∧ Aside0 (Kd.R (Kd.int .i64) 3 wr w.heap.size (fun _ => True) v (ofK use L k)) ∧ Aside0 (Below w.heap.size w wr)) (fun _ i _ => m - (intOf i).toNat)
  case atStart => exact ⟨_, 0, by omega, rfl, rfl, ⟨Kd.R_nil _ _ _ _ _⟩, ⟨Below.refl _ _⟩⟩
  case round =>
    obtain ⟨v, k, hk, rfl, rfl, HR, HW⟩ := hrel
    by_cases hlt : k < m
    · have hkl : k < L.length := by rw [HM.out]; exact hlt
      obtain ⟨⟨u, a, l, c⟩, hx⟩ : ∃ x, L.getD k zRw = x := ⟨_, rfl⟩
      obtain ⟨r0, r1, r2, r3⟩ := (HS.out.on HW.out).row (getD_some hkl)
      have hn := Aside0.mk (show ofK use L (k + 1) = ofK use L k ++ if u = use then [(k : Int)] else [] by rw [ofK, hx])
      rw [hx] at r0 r1 r2 r3
      dsimp only at r0 r1 r2 r3
      have j1 : (k : Int) < (m : Int) := by omega
      have j2 : (0 : Int) ≤ (k : Int) := by omega
      clear hx hkl
      by_cases h1 : u = use
      · have h1s := h1.symm; subst h1s
        go_wp2_with ((with_reducible refine gate_builtin (b := .append) (xs := #[.tmp 22, .tmp 24]) rfl ?_); at_builtin; go_loud (refine Kd.R_append (Kd.int .i64) (w0 := w) w.heap.size rfl (.tmp 22) (.tmp 24) 33 3 (.int .i64 0) 8 rfl Tryz.underlying33 Q.info3 rfl (by decide) (by omega) _ (ofK use L k) (k : Int) [.int .i64 k] (fun _ => True) (fun _ => False) rfl ?aX ?aP (fun _ hk => hk.elim) (fun _ _ => trivial) (Kd.R_alloc HR.out _) (below_alloc HW.out _) (below_alloc HW.out _).size ?aL ?_); go_loud (case aP => exact rfl); go_loud (case aX => first | rfl | (rw [World.size_alloc]; rfl)); go_loud (case aL => have := HL.out k; omega); intro v1 w1 ho hb hg hat; have HR1 := Aside0.mk ho; have HW1 := Aside0.mk hb; clear ho hb hg hat)
        go_roundw
        case rel => exact ⟨_, k + 1, by omega, rfl, by go_num, ⟨by rw [hn.out, if_pos rfl]; exact HR1.out⟩, HW1⟩
        case measure => simp [intOf]; omega
      · have h2 : (u == use) = false := beq_eq_false_iff_ne.2 h1
        go_wp2
        go_roundw
        case rel => exact ⟨_, k + 1, by omega, rfl, by go_num, ⟨by rw [hn.out, if_neg h1, List.append_nil]; exact Kd.R_alloc HR.out _⟩, ⟨below_alloc HW.out _⟩⟩
        case measure => simp [intOf]; omega
    · obtain rfl : k = m := by omega
      have j1 : ¬ (k : Int) < (k : Int) := by omega
      go_wp2
      go_ret
      exact ⟨_, rfl, HR.out, HW.out⟩
end
end Go.Proofs.YtlpnggaeepjjfaaGreatDoor.Bo

namespace Go.Proofs.YtlpnggaeepjjfaaGreatDoor.Bo
open Go.RowKit Go.Proofs.YtlpnggaeepjjfaaGreatDoorW.PrintWords Go.Proofs.YtlpnggaeepjjfaaGreatDoorW.PrintLast
set_option linter.unusedVariables false
set_option linter.unusedSimpArgs false
section
variable {w : World} {b q : Nat} {size : Int} {L : List Rw}
set_option maxRecDepth 100000 in
set_option maxHeartbeats 4000000 in
theorem rof_calls (S : Bk 88 89 w b q size L) (hl : L.length ≤ 256) (use : Int) :
    Calls Tryz.prog 53 #[.pointer (some ⟨b, 0, none⟩), .int .i64 use] w (RowPost w (ofK use L L.length)) := by
  have HS := Aside0.mk S
  have HL := Aside0.mk (ofK_len use L)
  obtain ⟨c0, c1⟩ := S.book
  obtain ⟨m, hm⟩ : ∃ m, L.length = m := ⟨_, rfl⟩
  rw [hm] at c1 hl ⊢
  have HM := Aside0.mk hm
  clear S hm
  go_enter Tryz.func53, Tryz.ntmps53
  go_wp2
  go_loopw [5, 6] (fun out i wr => ∃ (v : Value) (k : Nat), k ≤ m ∧ out = v ∧ i = .int .i64 k ∧ Aside0 (Kd.R (Kd.int .i64) 3 wr w.heap.size (fun _ => True) v (ofK use L k)) ∧ Aside0 (Below w.heap.size w wr)) (fun _ i _ => m - (intOf i).toNat)
  case atStart => exact ⟨_, 0, by omega, rfl, rfl, ⟨Kd.R_nil _ _ _ _ _⟩, ⟨Below.refl _ _⟩⟩
  case round =>
    obtain ⟨v, k, hk, rfl, rfl, HR, HW⟩ := hrel
    obtain ⟨d0, d1⟩ := (HS.out.on HW.out).book
    rw [HM.out] at d1
    by_cases hlt : k < m
    · have hkl : k < L.length := by rw [HM.out]; exact hlt
      obtain ⟨⟨u, a, l, c⟩, hx⟩ : ∃ x, L.getD k zRw = x := ⟨_, rfl⟩
      obtain ⟨r0, r1, r2, r3⟩ := (HS.out.on HW.out).row (getD_some hkl)
      have hn := Aside0.mk (show ofK use L (k + 1) = ofK use L k ++ if u = use then [(k : Int)] else [] by rw [ofK, hx])
      rw [hx] at r0 r1 r2 r3
      dsimp only at r0 r1 r2 r3
      have j1 : (k : Int) < (m : Int) := by omega
      have j2 : (0 : Int) ≤ (k : Int) := by omega
      clear hx hkl
      by_cases h1 : u = use
      · have h1s := h1.symm
        subst h1s
        go_wp2_with ((with_reducible refine gate_builtin (b := .append) (xs := #[.tmp 30, .tmp 32]) rfl ?_); at_builtin; refine Kd.R_append (Kd.int .i64) (w0 := w) w.heap.size rfl (.tmp 30) (.tmp 32) 33 3 (.int .i64 0) 8 rfl Tryz.underlying33 Q.info3 rfl (by decide) (by omega) _ (ofK use L k) (k : Int) [.int .i64 k] (fun _ => True) (fun _ => False) rfl ?aX ?aP (fun _ hk => hk.elim) (fun _ _ => trivial) HR.out HW.out HW.out.size ?aL ?_; (case aP => exact rfl); (case aX => first | rfl | (rw [World.size_alloc]; rfl)); (case aL => have := HL.out k; omega); intro v1 w1 ho hb hg hat; have HR1 := Aside0.mk ho; have HW1 := Aside0.mk hb; clear ho hb hg hat)
        go_roundw
        case rel => exact ⟨_, k + 1, by omega, rfl, by go_num, ⟨by rw [hn.out, if_pos rfl]; exact HR1.out⟩, HW1⟩
        case measure => simp [intOf]; omega
      · have h2 : (u == use) = false := beq_eq_false_iff_ne.2 h1
        go_wp2
        go_roundw
        case rel => exact ⟨_, k + 1, by omega, rfl, by go_num, ⟨by rw [hn.out, if_neg h1, List.append_nil]; exact HR.out⟩, HW⟩
        case measure => simp [intOf]; omega
    · obtain rfl : k = m := by omega
      have j1 : ¬ (k : Int) < (k : Int) := by omega
      go_wp2
      go_ret
      exact ⟨_, rfl, HR.out, HW.out⟩
set_option maxRecDepth 100000 in
set_option maxHeartbeats 4000000 in
theorem rfrees_calls (S : Bk 88 89 w b q size L) (hl : L.length ≤ 256) :
    Calls Tryz.prog 54 #[.pointer (some ⟨b, 0, none⟩)] w (RowPost w (ofK 0 L L.length)) := by
  have hT := rof_calls S hl 0
  clear S hl
  go_enter Tryz.func54, Tryz.ntmps54
  go_wp2_with (go_at_call 53; (with_reducible refine hT.mono ?_); rintro e w' ⟨v, rfl, ho, hb⟩)
  go_ret
  exact ⟨_, rfl, ho, hb⟩
set_option maxRecDepth 100000 in
set_option maxHeartbeats 4000000 in
theorem frees_calls (S : Bk 71 36 w b q size L) (hl : L.length ≤ 256) :
    Calls Tryz.prog 27 #[.pointer (some ⟨b, 0, none⟩)] w (RowPost w (ofK 0 L L.length)) := by
  have hT := those_calls S hl 0
  clear S hl
  go_enter Tryz.func27, Tryz.ntmps27
  go_wp2_with (go_at_call 59; (with_reducible refine hT.mono ?_); rintro e w' ⟨v, rfl, ho, hb⟩)
  go_ret
  exact ⟨_, rfl, ho, hb⟩
def ofR (use : Int) (L : List Rw) : List Int := if use = 0 then [] else ofK use L L.length
set_option maxRecDepth 100000 in
set_option maxHeartbeats 4000000 in
theorem of_calls (S : Bk 71 36 w b q size L) (hl : L.length ≤ 256) (use : Int) :
    Calls Tryz.prog 28 #[.pointer (some ⟨b, 0, none⟩), .int .i64 use] w (RowPost w (ofR use L)) := by
  have hT := those_calls S hl use
  unfold ofR
  clear S hl
  by_cases h : use = 0
  · rw [if_pos h]
    subst h
    go_enter Tryz.func28, Tryz.ntmps28
    go_wp2
    go_ret
    exact ⟨_, rfl, Kd.R_nil _ _ _ _ _, Below.refl _ _⟩
  · rw [if_neg h]
    have h2 : (use == 0) = false := beq_eq_false_iff_ne.2 h
    go_enter Tryz.func28, Tryz.ntmps28
    go_wp2_with (go_at_call 59; (with_reducible refine hT.mono ?_); rintro e w' ⟨v, rfl, ho, hb⟩)
    go_ret
    exact ⟨_, rfl, ho, hb⟩
end
end Go.Proofs.YtlpnggaeepjjfaaGreatDoor.Bo

namespace Go.Proofs.YtlpnggaeepjjfaaGreatDoor.Bo
open Go.RowKit Go.Proofs.YtlpnggaeepjjfaaGreatDoorW.PrintWords Go.Proofs.YtlpnggaeepjjfaaGreatDoorW.PrintLast
set_option linter.unusedVariables false
set_option linter.unusedSimpArgs false
theorem ints_at {w : World} {A : Option Addr} {xs : List Int} (h : Kd.C (Kd.int .i64) w A xs.length xs) {x : Int} (hx : xs[0]? = some x) : ∃ b off, A = some ⟨b, off, none⟩ ∧ w.cell? ⟨b, off, none⟩ = some (.int .i64 x) := by
  obtain ⟨_, hl, hc⟩ := h
  obtain ⟨ad, hA, hc⟩ := hc (by cases xs with | nil => simp at hx | cons y ys => simp)
  obtain ⟨c, hcl, hr, hcc⟩ := hc 0 x hx
  have hr' : c = [.int .i64 x] := hr
  subst hr'
  have h0 := hcc 0 _ rfl
  obtain ⟨b, off, sp⟩ := ad
  have h0' : w.cell? ⟨b, off, sp⟩ = some (.int .i64 x) := h0
  have hsp : sp = none := by
    cases sp with
    | none => rfl
    | some s =>
      exfalso
      unfold World.cell? at h0'
      split at h0' <;> simp at h0'
  subst hsp
  exact ⟨b, off, hA, h0'⟩
def leastR (l : List Int) : Int × Bool := match l with | [] => (0, false) | x :: _ => (x, true)
def LeastPost (w : World) (l : List Int) (e : Ending) (w' : World) : Prop := e = .returned (.tuple #[.int .i64 (leastR l).1, .bool (leastR l).2]) ∧ Below w.heap.size w w'
set_option maxRecDepth 100000 in
set_option maxHeartbeats 4000000 in
theorem least_of (p : Value) (w : World) (l : List Int) (hT : Calls Tryz.prog 27 #[p] w (RowPost w l)) : Calls Tryz.prog 26 #[p] w (LeastPost w l) := by
  cases l with
  | nil =>
    go_enter Tryz.func26, Tryz.ntmps26
    go_wp2_with (go_at_call 27; (with_reducible refine hT.mono ?_); rintro e w' ⟨v, rfl, ho, hb⟩; obtain ⟨A, c, rfl⟩ := Kd.R_slice ho; have HB := Aside0.mk hb; clear ho hb)
    go_ret2
    exact ⟨rfl, HB.out⟩
  | cons x r =>
    obtain ⟨m, hm⟩ : ∃ m, (x :: r).length = m := ⟨_, rfl⟩
    have h1 : (m == 0) = false := by rw [← hm]; rfl
    have h2 : ((m : Int) == 0) = false := beq_eq_false_iff_ne.2 (by rw [← hm, List.length_cons]; omega)
    have h3 : (0 : Int) < (m : Int) := by rw [← hm, List.length_cons]; omega
    have h4 : 0 < m := by omega
    have HM := Aside0.mk hm
    clear hm
    go_enter Tryz.func26, Tryz.ntmps26
    go_wp2_with (go_at_call 27; (with_reducible refine hT.mono ?_); rintro e w' ⟨v, rfl, ho, hb⟩; obtain ⟨A, c, rfl⟩ := Kd.R_slice ho; obtain ⟨ab, ao, rfl, hc0⟩ := ints_at (Kd.R_reads' ho).2.2 rfl; have HB := Aside0.mk hb; clear ho hb; rw [HM.out])
    go_ret2
    exact ⟨rfl, HB.out⟩
set_option maxRecDepth 100000 in
set_option maxHeartbeats 4000000 in
theorem rleast_of (p : Value) (w : World) (l : List Int) (hT : Calls Tryz.prog 54 #[p] w (RowPost w l)) : Calls Tryz.prog 51 #[p] w (LeastPost w l) := by
  cases l with
  | nil =>
    go_enter Tryz.func51, Tryz.ntmps51
    go_wp2_with (go_at_call 54; (with_reducible refine hT.mono ?_); rintro e w' ⟨v, rfl, ho, hb⟩; obtain ⟨A, c, rfl⟩ := Kd.R_slice ho; have HB := Aside0.mk hb; clear ho hb)
    go_ret2
    exact ⟨rfl, HB.out⟩
  | cons x r =>
    obtain ⟨m, hm⟩ : ∃ m, (x :: r).length = m := ⟨_, rfl⟩
    have h1 : (m == 0) = false := by rw [← hm]; rfl
    have h2 : ((m : Int) == 0) = false := beq_eq_false_iff_ne.2 (by rw [← hm, List.length_cons]; omega)
    have h3 : (0 : Int) < (m : Int) := by rw [← hm, List.length_cons]; omega
    have h4 : 0 < m := by omega
    have HM := Aside0.mk hm
    clear hm
    go_enter Tryz.func51, Tryz.ntmps51
    go_wp2_with (go_at_call 54; (with_reducible refine hT.mono ?_); rintro e w' ⟨v, rfl, ho, hb⟩; obtain ⟨A, c, rfl⟩ := Kd.R_slice ho; obtain ⟨ab, ao, rfl, hc0⟩ := ints_at (Kd.R_reads' ho).2.2 rfl; have HB := Aside0.mk hb; clear ho hb; rw [HM.out])
    go_ret2
    exact ⟨rfl, HB.out⟩
def totK (L : List Rw) : Nat → Int × Int × Int
  | 0 => (0, 0, 0)
  | k + 1 => ((totK L k).1 + (if (L.getD k zRw).use = 0 then 1 else 0), (totK L k).2.1 + (L.getD k zRw).used, (totK L k).2.2 + (L.getD k zRw).live)
theorem totK_bound {size : Int} {L : List Rw} (h : Ok size L) (k : Nat) (hk : k ≤ L.length) : 0 ≤ (totK L k).1 ∧ (totK L k).1 ≤ k ∧ 0 ≤ (totK L k).2.1 ∧ (totK L k).2.1 ≤ 16777216 * k ∧ 0 ≤ (totK L k).2.2 ∧ (totK L k).2.2 ≤ (totK L k).2.1 := by
  induction k with
  | zero => simp [totK]
  | succ k ih =>
    have := ih (by omega)
    have hr := h.rows _ (getD_mem (show k < L.length by omega))
    have hh := h.hi
    rw [totK]
    dsimp only
    split <;> omega
def TotPost (w : World) (t : Int × Int × Int) (e : Ending) (w' : World) : Prop := e = .returned (.tuple #[.int .i64 t.1, .int .i64 t.2.1, .int .i64 t.2.2, .int .i64 (t.2.1 - t.2.2)]) ∧ Below w.heap.size w w'
section
variable {w : World} {b q : Nat} {size : Int} {L : List Rw}
set_option maxRecDepth 100000 in
set_option maxHeartbeats 4000000 in
theorem totals_calls (S : Bk 71 36 w b q size L) (hO : Ok size L) :
    Calls Tryz.prog 25 #[.pointer (some ⟨b, 0, none⟩)] w (TotPost w (totK L L.length)) := by
  have HS := Aside0.mk S
  have HT := Aside0.mk (totK_bound hO)
  have HO := Aside0.mk hO
  have hl := hO.len
  obtain ⟨c0, c1⟩ := S.book
  obtain ⟨m, hm⟩ : ∃ m, L.length = m := ⟨_, rfl⟩
  rw [hm] at c1 hl ⊢
  have HM := Aside0.mk hm
  clear S hm hO
  go_enter Tryz.func25, Tryz.ntmps25
  go_wp2
  go_loopw [2, 3, 4, 15] (fun f a l i wr => ∃ (F A l' : Int) (k : Nat), k ≤ m ∧ f = .int .i64 F ∧ a = .int .i64 A ∧ l = .int .i64 l' ∧ i = .int .i64 k ∧ Aside0 (totK L k = (F, A, l')) ∧ Aside0 (Below w.heap.size w wr)) (fun _ _ _ i _ => m - (intOf i).toNat)
  case atStart => exact ⟨0, 0, 0, 0, by omega, rfl, rfl, rfl, rfl, ⟨rfl⟩, ⟨Below.refl _ _⟩⟩
  case round =>
    obtain ⟨F, A, l', k, hk, rfl, rfl, rfl, rfl, HK, HW⟩ := hrel
    have hb := HT.out k (by rw [HM.out]; exact hk)
    rw [HK.out] at hb
    dsimp only at hb
    by_cases hlt : k < m
    · have hkl : k < L.length := by rw [HM.out]; exact hlt
      have hr := HO.out.rows _ (getD_mem hkl)
      have hhi := HO.out.hi
      obtain ⟨⟨u, a, l, c⟩, hx⟩ : ∃ x, L.getD k zRw = x := ⟨_, rfl⟩
      obtain ⟨r0, r1, r2, r3⟩ := (HS.out.on HW.out).row (getD_some hkl)
      have hn := Aside0.mk (show totK L (k + 1) = (F + (if u = 0 then 1 else 0), A + a, l' + l) by rw [totK, hx, HK.out])
      rw [hx] at r0 r1 r2 r3 hr
      dsimp only at r0 r1 r2 r3 hr
      have j1 : (k : Int) < (m : Int) := by omega
      have j2 : (0 : Int) ≤ (k : Int) := by omega
      have w1 : wrap64 (A + a) = A + a := by unfold wrap64; omega
      have HW2 := Aside0.mk (show wrap64 (l' + l) = l' + l by unfold wrap64; omega)
      have HW3 := Aside0.mk (show wrap64 (F + 1) = F + 1 by unfold wrap64; omega)
      have w2 := HW2.out
      have w3 := HW3.out
      clear hx hkl hhi hr
      by_cases h1 : u = 0
      · subst h1
        go_wp2
        go_roundw
        case rel => exact ⟨F + 1, A + a, l' + l, k + 1, by omega, by first | rfl | (rw [w3]) | simp [w3], by first | rfl | simp [w1], by first | rfl | simp [w2], by go_num, ⟨by rw [hn.out, if_pos rfl]⟩, ⟨below_alloc HW.out _⟩⟩
        case measure => simp [intOf]; omega
      · have h2 : (u == 0) = false := beq_eq_false_iff_ne.2 h1
        go_wp2
        go_roundw
        case rel => exact ⟨F, A + a, l' + l, k + 1, by omega, rfl, by first | rfl | simp [w1], by first | rfl | simp [w2], by go_num, ⟨by rw [hn.out, if_neg h1, Int.add_zero]⟩, ⟨below_alloc HW.out _⟩⟩
        case measure => simp [intOf]; omega
    · obtain rfl : k = m := by omega
      have j1 : ¬ (k : Int) < (k : Int) := by omega
      have w4 : wrap64 (A - l') = A - l' := by unfold wrap64; omega
      go_wp2
      refine bodyPost_ret (results_list (rs := [.tmp 2, .tmp 3, .tmp 4, .tmp 5]) rfl (by simp) (.tmp (.tmp (.tmp (.tmp .nil))))) rfl ?_
      exact ⟨by rw [HK.out]; rfl, HW.out⟩
set_option maxRecDepth 100000 in
set_option maxHeartbeats 4000000 in
theorem rtotals_calls (S : Bk 88 89 w b q size L) (hO : Ok size L) :
    Calls Tryz.prog 52 #[.pointer (some ⟨b, 0, none⟩)] w (TotPost w (totK L L.length)) := by
  have HS := Aside0.mk S
  have HT := Aside0.mk (totK_bound hO)
  have HO := Aside0.mk hO
  have hl := hO.len
  obtain ⟨c0, c1⟩ := S.book
  obtain ⟨m, hm⟩ : ∃ m, L.length = m := ⟨_, rfl⟩
  rw [hm] at c1 hl ⊢
  have HM := Aside0.mk hm
  clear S hm hO
  go_enter Tryz.func52, Tryz.ntmps52
  go_wp2
  go_loopw [6, 7, 8, 9] (fun f a l i wr => ∃ (F A l' : Int) (k : Nat), k ≤ m ∧ f = .int .i64 F ∧ a = .int .i64 A ∧ l = .int .i64 l' ∧ i = .int .i64 k ∧ Aside0 (totK L k = (F, A, l')) ∧ wr = w) (fun _ _ _ i _ => m - (intOf i).toNat)
  case atStart => exact ⟨0, 0, 0, 0, by omega, rfl, rfl, rfl, rfl, ⟨rfl⟩, rfl⟩
  case round =>
    obtain ⟨F, A, l', k, hk, rfl, rfl, rfl, rfl, HK, rfl⟩ := hrel
    have hb := HT.out k (by rw [HM.out]; exact hk)
    rw [HK.out] at hb
    dsimp only at hb
    by_cases hlt : k < m
    · have hkl : k < L.length := by rw [HM.out]; exact hlt
      have hr := HO.out.rows _ (getD_mem hkl)
      have hhi := HO.out.hi
      obtain ⟨⟨u, a, l, c⟩, hx⟩ : ∃ x, L.getD k zRw = x := ⟨_, rfl⟩
      obtain ⟨r0, r1, r2, r3⟩ := HS.out.row (getD_some hkl)
      have hn := Aside0.mk (show totK L (k + 1) = (F + (if u = 0 then 1 else 0), A + a, l' + l) by rw [totK, hx, HK.out])
      rw [hx] at r0 r1 r2 r3 hr
      dsimp only at r0 r1 r2 r3 hr
      have j1 : (k : Int) < (m : Int) := by omega
      have j2 : (0 : Int) ≤ (k : Int) := by omega
      have w1 : wrap64 (A + a) = A + a := by unfold wrap64; omega
      have HW2 := Aside0.mk (show wrap64 (l' + l) = l' + l by unfold wrap64; omega)
      have HW3 := Aside0.mk (show wrap64 (F + 1) = F + 1 by unfold wrap64; omega)
      have w2 := HW2.out
      have w3 := HW3.out
      clear hx hkl hhi hr
      by_cases h1 : u = 0
      · subst h1
        go_wp2
        go_roundw
        case rel => exact ⟨F + 1, A + a, l' + l, k + 1, by omega, by first | rfl | (rw [w3]) | simp [w3], by first | rfl | simp [w1], by first | rfl | simp [w2], by go_num, ⟨by rw [hn.out, if_pos rfl]⟩, by first | trivial | rfl⟩
        case measure => simp [intOf]; omega
      · have h2 : (u == 0) = false := beq_eq_false_iff_ne.2 h1
        go_wp2
        go_roundw
        case rel => exact ⟨F, A + a, l' + l, k + 1, by omega, rfl, by first | rfl | simp [w1], by first | rfl | simp [w2], by go_num, ⟨by rw [hn.out, if_neg h1, Int.add_zero]⟩, by first | trivial | rfl⟩
        case measure => simp [intOf]; omega
    · obtain rfl : k = m := by omega
      have j1 : ¬ (k : Int) < (k : Int) := by omega
      have w4 : wrap64 (A - l') = A - l' := by unfold wrap64; omega
      go_wp2
      refine bodyPost_ret (results_list (rs := [.tmp 2, .tmp 3, .tmp 4, .tmp 5]) rfl (by simp) (.tmp (.tmp (.tmp (.tmp .nil))))) rfl ?_
      exact ⟨by rw [HK.out]; rfl, Below.refl _ _⟩
end
end Go.Proofs.YtlpnggaeepjjfaaGreatDoor.Bo

namespace Go.Proofs
open Go.Shelf
def Tryz.laysStr_ren : Go.Shelf.Ren := ⟨fun | 169 => 34 | n => n, fun | 70 => 58 | 9 => 9 | 0 => 0 | 72 => 61 | 37 => 59 | 127 => 95 | 3 => 3 | 5 => 5 | n => n, fun | n => n⟩
theorem Tryz.laysStr : Go.Proofs.Lays.n169 Tryz.prog Tryz.laysStr_ren := {
  mixed := by kernel_rfl
  f169 := Tryz.func34.trans (congrArg some (by kernel_rfl))
  t0 := Tryz.underlying0
  a0 := Tryz.isAgg0
  z0 := Tryz.sizeOf0
  v0 := Tryz.zeroValue0
  t3 := Tryz.underlying3
  a3 := Tryz.isAgg3
  z3 := Tryz.sizeOf3
  v3 := Tryz.zeroValue3
  t9 := Tryz.underlying9
  a9 := Tryz.isAgg9
  z9 := Tryz.sizeOf9
  v9 := Tryz.zeroValue9
  t37 := Tryz.underlying59
  a37 := Tryz.isAgg59
  z37 := Tryz.sizeOf59
  v37 := Tryz.zeroValue59
  t70 := Tryz.underlying58
  a70 := Tryz.isAgg58
  z70 := Tryz.sizeOf58
  v70 := Tryz.zeroValue58
  t72 := Tryz.underlying61
  a72 := Tryz.isAgg61
  z72 := Tryz.sizeOf61
  v72 := Tryz.zeroValue61
  t127 := Tryz.underlying95
  a127 := Tryz.isAgg95
  z127 := Tryz.sizeOf95
  v127 := Tryz.zeroValue95 }
def Tryz.laysItoa_ren : Go.Shelf.Ren := ⟨fun | 171 => 33 | 243 => 61 | 246 => 73 | 283 => 92 | 284 => 93 | 285 => 94 | 286 => 95 | 129 => 83 | 317 => 111 | 318 => 112 | 319 => 113 | 320 => 114 | 337 => 124 | 338 => 125 | n => n, fun | 3 => 3 | 9 => 9 | 2 => 2 | 4 => 4 | 171 => 123 | 0 => 0 | 53 => 117 | 37 => 59 | 5 => 5 | 173 => 125 | 212 => 144 | 51 => 115 | 20 => 20 | 213 => 145 | 46 => 98 | 232 => 165 | 233 => 166 | n => n, fun | 17 => 0 | 18 => 6 | 19 => 7 | n => n⟩
theorem Tryz.laysItoa : Go.Proofs.LaysM.n171 Tryz.prog Tryz.laysItoa_ren := {
  mixed := by kernel_rfl
  f129 := Tryz.func83.trans (congrArg some (by kernel_rfl))
  f171 := Tryz.func33.trans (congrArg some (by kernel_rfl))
  f243 := Tryz.func61.trans (congrArg some (by kernel_rfl))
  f246 := Tryz.func73.trans (congrArg some (by kernel_rfl))
  f283 := Tryz.func92.trans (congrArg some (by kernel_rfl))
  f284 := Tryz.func93.trans (congrArg some (by kernel_rfl))
  f285 := Tryz.func94.trans (congrArg some (by kernel_rfl))
  f286 := Tryz.func95.trans (congrArg some (by kernel_rfl))
  f317 := Tryz.func111.trans (congrArg some (by kernel_rfl))
  f318 := Tryz.func112.trans (congrArg some (by kernel_rfl))
  f319 := Tryz.func113.trans (congrArg some (by kernel_rfl))
  f320 := Tryz.func114.trans (congrArg some (by kernel_rfl))
  f337 := Tryz.func124.trans (congrArg some (by kernel_rfl))
  f338 := Tryz.func125.trans (congrArg some (by kernel_rfl))
  t0 := Tryz.underlying0
  a0 := Tryz.isAgg0
  z0 := Tryz.sizeOf0
  v0 := Tryz.zeroValue0
  t2 := Tryz.underlying2
  a2 := Tryz.isAgg2
  z2 := Tryz.sizeOf2
  v2 := Tryz.zeroValue2
  t3 := Tryz.underlying3
  a3 := Tryz.isAgg3
  z3 := Tryz.sizeOf3
  v3 := Tryz.zeroValue3
  t4 := Tryz.underlying4
  a4 := Tryz.isAgg4
  z4 := Tryz.sizeOf4
  v4 := Tryz.zeroValue4
  t5 := Tryz.underlying5
  a5 := Tryz.isAgg5
  z5 := Tryz.sizeOf5
  v5 := Tryz.zeroValue5
  t9 := Tryz.underlying9
  a9 := Tryz.isAgg9
  z9 := Tryz.sizeOf9
  v9 := Tryz.zeroValue9
  t20 := Tryz.underlying20
  a20 := Tryz.isAgg20
  z20 := Tryz.sizeOf20
  v20 := Tryz.zeroValue20
  t37 := Tryz.underlying59
  a37 := Tryz.isAgg59
  z37 := Tryz.sizeOf59
  v37 := Tryz.zeroValue59
  t46 := Tryz.underlying98
  a46 := Tryz.isAgg98
  z46 := Tryz.sizeOf98
  v46 := Tryz.zeroValue98
  t51 := Tryz.underlying115
  a51 := Tryz.isAgg115
  z51 := Tryz.sizeOf115
  v51 := Tryz.zeroValue115
  t53 := Tryz.underlying117
  a53 := Tryz.isAgg117
  z53 := Tryz.sizeOf117
  v53 := Tryz.zeroValue117
  t171 := Tryz.underlying123
  a171 := Tryz.isAgg123
  z171 := Tryz.sizeOf123
  v171 := Tryz.zeroValue123
  t173 := Tryz.underlying125
  a173 := Tryz.isAgg125
  z173 := Tryz.sizeOf125
  v173 := Tryz.zeroValue125
  t212 := Tryz.underlying144
  a212 := Tryz.isAgg144
  z212 := Tryz.sizeOf144
  v212 := Tryz.zeroValue144
  t213 := Tryz.underlying145
  a213 := Tryz.isAgg145
  z213 := Tryz.sizeOf145
  t232 := Tryz.underlying165
  a232 := Tryz.isAgg165
  z232 := Tryz.sizeOf165
  v232 := Tryz.zeroValue165
  t233 := Tryz.underlying166
  a233 := Tryz.isAgg166
  z233 := Tryz.sizeOf166
  v233 := Tryz.zeroValue166
  g17 := by kernel_rfl
  g18 := by kernel_rfl
  g19 := by kernel_rfl
  i0 := by kernel_rfl
  i2 := by kernel_rfl
  i3 := by kernel_rfl
  i4 := by kernel_rfl
  i5 := by kernel_rfl
  i9 := by kernel_rfl
  i20 := by kernel_rfl
  i37 := by kernel_rfl
  i46 := by kernel_rfl
  i51 := by kernel_rfl
  i53 := by kernel_rfl
  i171 := by kernel_rfl
  i173 := by kernel_rfl
  i212 := by kernel_rfl
  i232 := by kernel_rfl
  i233 := by kernel_rfl
  m17 := by kernel_rfl
  m18 := by kernel_rfl
  m19 := by kernel_rfl }
def Tryz.laysSplit_ren : Go.Shelf.Ren := ⟨fun | 146 => 42 | 221 => 65 | 268 => 84 | 138 => 85 | 143 => 86 | 195 => 101 | 197 => 102 | 218 => 103 | 219 => 104 | 260 => 116 | 217 => 117 | 225 => 118 | 224 => 119 | 267 => 120 | 266 => 126 | 314 => 127 | n => n, fun | 9 => 9 | 31 => 80 | 3 => 3 | 4 => 4 | 0 => 0 | 105 => 134 | 21 => 21 | 5 => 5 | 46 => 98 | 119 => 155 | 139 => 158 | 138 => 157 | 146 => 159 | 51 => 115 | n => n, fun | 1 => 1 | 3 => 4 | 4 => 5 | n => n⟩
theorem Tryz.laysSplit : Go.Proofs.Lays.n146 Tryz.prog Tryz.laysSplit_ren := {
  mixed := by kernel_rfl
  f138 := Tryz.func85.trans (congrArg some (by kernel_rfl))
  f143 := Tryz.func86.trans (congrArg some (by kernel_rfl))
  f146 := Tryz.func42.trans (congrArg some (by kernel_rfl))
  f195 := Tryz.func101.trans (congrArg some (by kernel_rfl))
  f197 := Tryz.func102.trans (congrArg some (by kernel_rfl))
  f217 := Tryz.func117.trans (congrArg some (by kernel_rfl))
  f218 := Tryz.func103.trans (congrArg some (by kernel_rfl))
  f219 := Tryz.func104.trans (congrArg some (by kernel_rfl))
  f221 := Tryz.func65.trans (congrArg some (by kernel_rfl))
  f224 := Tryz.func119.trans (congrArg some (by kernel_rfl))
  f225 := Tryz.func118.trans (congrArg some (by kernel_rfl))
  f260 := Tryz.func116.trans (congrArg some (by kernel_rfl))
  f266 := Tryz.func126.trans (congrArg some (by kernel_rfl))
  f267 := Tryz.func120.trans (congrArg some (by kernel_rfl))
  f268 := Tryz.func84.trans (congrArg some (by kernel_rfl))
  f314 := Tryz.func127.trans (congrArg some (by kernel_rfl))
  t0 := Tryz.underlying0
  a0 := Tryz.isAgg0
  z0 := Tryz.sizeOf0
  v0 := Tryz.zeroValue0
  t3 := Tryz.underlying3
  a3 := Tryz.isAgg3
  z3 := Tryz.sizeOf3
  v3 := Tryz.zeroValue3
  t4 := Tryz.underlying4
  a4 := Tryz.isAgg4
  z4 := Tryz.sizeOf4
  v4 := Tryz.zeroValue4
  t5 := Tryz.underlying5
  a5 := Tryz.isAgg5
  z5 := Tryz.sizeOf5
  v5 := Tryz.zeroValue5
  t9 := Tryz.underlying9
  a9 := Tryz.isAgg9
  z9 := Tryz.sizeOf9
  v9 := Tryz.zeroValue9
  t21 := Tryz.underlying21
  a21 := Tryz.isAgg21
  z21 := Tryz.sizeOf21
  v21 := Tryz.zeroValue21
  t31 := Tryz.underlying80
  a31 := Tryz.isAgg80
  z31 := Tryz.sizeOf80
  v31 := Tryz.zeroValue80
  t46 := Tryz.underlying98
  a46 := Tryz.isAgg98
  z46 := Tryz.sizeOf98
  v46 := Tryz.zeroValue98
  t51 := Tryz.underlying115
  a51 := Tryz.isAgg115
  z51 := Tryz.sizeOf115
  v51 := Tryz.zeroValue115
  t105 := Tryz.underlying134
  a105 := Tryz.isAgg134
  z105 := Tryz.sizeOf134
  v105 := Tryz.zeroValue134
  t119 := Tryz.underlying155
  a119 := Tryz.isAgg155
  z119 := Tryz.sizeOf155
  t138 := Tryz.underlying157
  a138 := Tryz.isAgg157
  z138 := Tryz.sizeOf157
  v138 := Tryz.zeroValue157
  t139 := Tryz.underlying158
  a139 := Tryz.isAgg158
  z139 := Tryz.sizeOf158
  v139 := Tryz.zeroValue158
  t146 := Tryz.underlying159
  a146 := Tryz.isAgg159
  z146 := Tryz.sizeOf159
  v146 := Tryz.zeroValue159
  g1 := by kernel_rfl
  g3 := by kernel_rfl
  g4 := by kernel_rfl }
def Tryz.laysCut_ren : Go.Shelf.Ren := ⟨fun | 104 => 44 | 211 => 68 | 207 => 90 | n => n, fun | 9 => 9 | 4 => 4 | 24 => 84 | 3 => 3 | n => n, fun | n => n⟩
theorem Tryz.laysCut : Go.Proofs.Lays.n104 Tryz.prog Tryz.laysCut_ren := {
  mixed := by kernel_rfl
  f104 := Tryz.func44.trans (congrArg some (by kernel_rfl))
  f207 := Tryz.func90.trans (congrArg some (by kernel_rfl))
  f211 := Tryz.func68.trans (congrArg some (by kernel_rfl))
  t3 := Tryz.underlying3
  a3 := Tryz.isAgg3
  z3 := Tryz.sizeOf3
  v3 := Tryz.zeroValue3
  t4 := Tryz.underlying4
  a4 := Tryz.isAgg4
  z4 := Tryz.sizeOf4
  v4 := Tryz.zeroValue4
  t9 := Tryz.underlying9
  a9 := Tryz.isAgg9
  z9 := Tryz.sizeOf9
  v9 := Tryz.zeroValue9
  t24 := Tryz.underlying84
  a24 := Tryz.isAgg84
  z24 := Tryz.sizeOf84
  v24 := Tryz.zeroValue84 }
def Tryz.laysCmp_ren : Go.Shelf.Ren := ⟨fun | 122 => 41 | 215 => 64 | n => n, fun | 3 => 3 | 4 => 4 | n => n, fun | n => n⟩
theorem Tryz.laysCmp : Go.Proofs.Lays.n122 Tryz.prog Tryz.laysCmp_ren := {
  mixed := by kernel_rfl
  f122 := Tryz.func41.trans (congrArg some (by kernel_rfl))
  f215 := Tryz.func64.trans (congrArg some (by kernel_rfl))
  t3 := Tryz.underlying3
  a3 := Tryz.isAgg3
  z3 := Tryz.sizeOf3
  v3 := Tryz.zeroValue3
  t4 := Tryz.underlying4
  a4 := Tryz.isAgg4
  z4 := Tryz.sizeOf4
  v4 := Tryz.zeroValue4 }
def Tryz.laysWS_ren : Go.Shelf.Ren := ⟨fun | 166 => 32 | 167 => 31 | 240 => 60 | 276 => 72 | n => n, fun | 0 => 0 | 3 => 3 | 4 => 4 | 5 => 5 | 9 => 9 | 20 => 20 | 37 => 59 | 70 => 58 | 72 => 61 | 75 => 63 | 80 => 28 | 164 => 104 | n => n, fun | n => n⟩
theorem Tryz.laysWS : Go.Proofs.Lays.n166 Tryz.prog Tryz.laysWS_ren := {
  mixed := by kernel_rfl
  f166 := Tryz.func32.trans (congrArg some (by kernel_rfl))
  f240 := Tryz.func60.trans (congrArg some (by kernel_rfl))
  f276 := Tryz.func72.trans (congrArg some (by kernel_rfl))
  t0 := Tryz.underlying0
  a0 := Tryz.isAgg0
  z0 := Tryz.sizeOf0
  v0 := Tryz.zeroValue0
  t3 := Tryz.underlying3
  a3 := Tryz.isAgg3
  z3 := Tryz.sizeOf3
  v3 := Tryz.zeroValue3
  t4 := Tryz.underlying4
  a4 := Tryz.isAgg4
  z4 := Tryz.sizeOf4
  v4 := Tryz.zeroValue4
  t9 := Tryz.underlying9
  a9 := Tryz.isAgg9
  z9 := Tryz.sizeOf9
  v9 := Tryz.zeroValue9
  t20 := Tryz.underlying20
  a20 := Tryz.isAgg20
  z20 := Tryz.sizeOf20
  v20 := Tryz.zeroValue20
  t37 := Tryz.underlying59
  a37 := Tryz.isAgg59
  z37 := Tryz.sizeOf59
  v37 := Tryz.zeroValue59
  t70 := Tryz.underlying58
  a70 := Tryz.isAgg58
  z70 := Tryz.sizeOf58
  v70 := Tryz.zeroValue58
  t72 := Tryz.underlying61
  a72 := Tryz.isAgg61
  z72 := Tryz.sizeOf61
  v72 := Tryz.zeroValue61
  t75 := Tryz.underlying63
  a75 := Tryz.isAgg63
  z75 := Tryz.sizeOf63
  v75 := Tryz.zeroValue63
  t164 := Tryz.underlying104
  a164 := Tryz.isAgg104
  z164 := Tryz.sizeOf104
  v164 := Tryz.zeroValue104 }
theorem Tryz.laysWS_extra : Builder.Extra Tryz.prog Tryz.laysWS_ren := {
  sizeBuilder := by kernel_rfl
  liesBuilder := by kernel_rfl
  t5 := Tryz.underlying5
  a5 := Tryz.isAgg5
  z5 := Tryz.sizeOf5
  v5 := Tryz.zeroValue5
  infoByte := by kernel_rfl
  cellsByte := by kernel_rfl
  sizeByte := by kernel_rfl
  neB5 := by decide }
def Tryz.laysWB_ren : Go.Shelf.Ren := ⟨fun | 166 => 32 | 167 => 31 | 240 => 60 | 276 => 72 | n => n, fun | 0 => 0 | 3 => 3 | 4 => 4 | 5 => 5 | 9 => 9 | 20 => 20 | 37 => 59 | 70 => 58 | 72 => 61 | 75 => 63 | 80 => 28 | 164 => 104 | n => n, fun | n => n⟩
theorem Tryz.laysWB : Go.Proofs.Lays.n167 Tryz.prog Tryz.laysWB_ren := {
  mixed := by kernel_rfl
  f167 := Tryz.func31.trans (congrArg some (by kernel_rfl))
  f240 := Tryz.func60.trans (congrArg some (by kernel_rfl))
  f276 := Tryz.func72.trans (congrArg some (by kernel_rfl))
  t0 := Tryz.underlying0
  a0 := Tryz.isAgg0
  z0 := Tryz.sizeOf0
  v0 := Tryz.zeroValue0
  t4 := Tryz.underlying4
  a4 := Tryz.isAgg4
  z4 := Tryz.sizeOf4
  v4 := Tryz.zeroValue4
  t5 := Tryz.underlying5
  a5 := Tryz.isAgg5
  z5 := Tryz.sizeOf5
  v5 := Tryz.zeroValue5
  t9 := Tryz.underlying9
  a9 := Tryz.isAgg9
  z9 := Tryz.sizeOf9
  v9 := Tryz.zeroValue9
  t20 := Tryz.underlying20
  a20 := Tryz.isAgg20
  z20 := Tryz.sizeOf20
  v20 := Tryz.zeroValue20
  t37 := Tryz.underlying59
  a37 := Tryz.isAgg59
  z37 := Tryz.sizeOf59
  v37 := Tryz.zeroValue59
  t70 := Tryz.underlying58
  a70 := Tryz.isAgg58
  z70 := Tryz.sizeOf58
  v70 := Tryz.zeroValue58
  t72 := Tryz.underlying61
  a72 := Tryz.isAgg61
  z72 := Tryz.sizeOf61
  v72 := Tryz.zeroValue61
  t75 := Tryz.underlying63
  a75 := Tryz.isAgg63
  z75 := Tryz.sizeOf63
  v75 := Tryz.zeroValue63
  t164 := Tryz.underlying104
  a164 := Tryz.isAgg104
  z164 := Tryz.sizeOf104
  v164 := Tryz.zeroValue104 }
theorem Tryz.laysWB_extra : Builder.Extra Tryz.prog Tryz.laysWB_ren := {
  sizeBuilder := by kernel_rfl
  liesBuilder := by kernel_rfl
  t5 := Tryz.underlying5
  a5 := Tryz.isAgg5
  z5 := Tryz.sizeOf5
  v5 := Tryz.zeroValue5
  infoByte := by kernel_rfl
  cellsByte := by kernel_rfl
  sizeByte := by kernel_rfl
  neB5 := by decide }
theorem Tryz.laysStr_extra : Builder.Extra Tryz.prog Tryz.laysStr_ren := {
  sizeBuilder := by kernel_rfl
  liesBuilder := by kernel_rfl
  t5 := Tryz.underlying5
  a5 := Tryz.isAgg5
  z5 := Tryz.sizeOf5
  v5 := Tryz.zeroValue5
  infoByte := by kernel_rfl
  cellsByte := by kernel_rfl
  sizeByte := by kernel_rfl
  neB5 := by decide }
end Go.Proofs

namespace Go.Proofs.YtlpnggaeepjjfaaGreatDoor.Z
open Go.RowKit Go.Proofs.YtlpnggaeepjjfaaGreatDoorW.PrintWords Go.Proofs.YtlpnggaeepjjfaaGreatDoorW.PrintLast Go.Proofs.YtlpnggaeepjjfaaGreatDoorW.PrintMore
attribute [local go_sem] max2_int min2_int max_two min_two max_three min_three max_four min_four   -- for this text's walks alone
set_option linter.unusedVariables false
set_option linter.unusedSimpArgs false



def errW : Option Int → Value
  | none => .nilIface
  | some c => .iface 0 (.int .i64 c)
theorem errW_none : errW none = .nilIface := rfl
theorem errW_some (c : Int) : errW (some c) = .iface 0 (.int .i64 c) := rfl

theorem info3 : (Tryz.prog.info? 3).map (fun i => (i.zero, i.size, i.bytes)) = some (some (.int .i64 0), 1, 8) := by kernel_rfl
theorem info5 : (Tryz.prog.info? 5).map (fun i => (i.zero, i.size, i.bytes)) = some (some (.int .u8 0), 1, 1) := by kernel_rfl
-- the values' own types
theorem isEmpty_bne_ (l : List UInt8) : Ending.returned (.bool l.isEmpty) = Ending.returned (.bool (!(l != ([] : List UInt8)))) := by cases l <;> rfl

end Go.Proofs.YtlpnggaeepjjfaaGreatDoor.Z

namespace Go.Proofs.YtlpnggaeepjjfaaGreatDoor.Z
open Go.RowKit Go.Proofs.YtlpnggaeepjjfaaGreatDoorW.PrintWords Go.Proofs.YtlpnggaeepjjfaaGreatDoorW.PrintLast Go.Proofs.YtlpnggaeepjjfaaGreatDoorW.PrintMore
attribute [local go_sem] max2_int min2_int max_two min_two max_three min_three max_four min_four   -- for this text's walks alone
set_option linter.unusedVariables false
set_option linter.unusedSimpArgs false

/-! ### pumicelaw14_Ints: function 29 -/
def pumicelaw14_Ints.l0 : Nat → List Int → List Int → Int → Option (Bool)
  | 0, _, _, _ => none
  | k + 1, x0, x1, x5 => if x5 < (x0.length : Int) then (if 0 ≤ x5 then (if x5 < (x1.length : Int) then (if (rd x0 x5) = (rd x1 x5) then (pumicelaw14_Ints.l0 k x0 x1 (wrap64 (x5 + 1))) else (none)) else (none)) else (none)) else (some true)
def pumicelaw14_Ints.f (k : Nat) (l0 : List Int) (l1 : List Int) : Option (Bool) := if (l0.length : Int) = (l1.length : Int) then (pumicelaw14_Ints.l0 k l0 l1 0) else (none)
theorem pumicelaw14_Ints.mono_l : ∀ k, (∀ y0 y1 y2, LeO (pumicelaw14_Ints.l0 k y0 y1 y2) (pumicelaw14_Ints.l0 (k + 1) y0 y1 y2))
  | 0 => fun _ _ _ r h => by simp [pumicelaw14_Ints.l0] at h
  | k + 1 => by
    have ih0 := pumicelaw14_Ints.mono_l k
    · intro y0 y1 y2
      unfold pumicelaw14_Ints.l0
      repeat' first
      | (with_reducible exact ih0 _ _ _)
      | (with_reducible exact LeO.refl _)
      | (with_reducible exact LeO.none _)
      | (with_reducible refine LeO.ite ?_ ?_)
      | (with_reducible refine LeO.bind ?_ (fun _ => ?_))
      | exact ih0 _ _ _
      | exact LeO.none _
      | refine LeO.ite ?_ ?_
      | refine LeO.bind ?_ (fun _ => ?_)
theorem pumicelaw14_Ints.mono : ∀ a0 a1 k, LeO (pumicelaw14_Ints.f k a0 a1) (pumicelaw14_Ints.f (k + 1) a0 a1) := by
  intro a0 a1 k
  have ih0 := pumicelaw14_Ints.mono_l k
  unfold pumicelaw14_Ints.f
  repeat' first
      | (with_reducible exact ih0 _ _ _)
      | (with_reducible exact LeO.refl _)
      | (with_reducible exact LeO.none _)
      | (with_reducible refine LeO.ite ?_ ?_)
      | (with_reducible refine LeO.bind ?_ (fun _ => ?_))
      | exact ih0 _ _ _
      | exact LeO.none _
      | refine LeO.ite ?_ ?_
      | refine LeO.bind ?_ (fun _ => ?_)
set_option maxHeartbeats 8000000 in
set_option maxRecDepth 100000 in
theorem pumicelaw14_Ints.calls (k : Nat) (A0 : Option Addr) (c0 : Nat) (l0 : List Int) (A1 : Option Addr) (c1 : Nat) (l1 : List Int) (r : Bool) (w : World) (hr0 : Kd.C (Kd.int .i64) w A0 l0.length l0) (hc0 : l0.length ≤ c0) (hr1 : Kd.C (Kd.int .i64) w A1 l1.length l1) (hc1 : l1.length ≤ c1) (h : pumicelaw14_Ints.f k l0 l1 = some r) :
    Calls Tryz.prog 29 #[.slice A0 l0.length c0, .slice A1 l1.length c1] w fun e w' => e = .returned (.bool r) ∧ Drawn0 w w' := by
  have HR0 := Aside0.mk hr0
  have HC0 := Aside0.mk hc0
  clear hr0 hc0
  have HR1 := Aside0.mk hr1
  have HC1 := Aside0.mk hc1
  clear hr1 hc1
  have H : (if (l0.length : Int) = (l1.length : Int) then (pumicelaw14_Ints.l0 k l0 l1 0) else (none)) = some r := h
  clear h
  by_cases c3 : (l0.length : Int) = (l1.length : Int)
  · rw [if_pos c3] at H
    have c3b0 : ((l0.length : Int) == (l1.length : Int)) = true := beq_iff_eq.mpr c3
    have c3b1 : ((l0.length : Int) != (l1.length : Int)) = false := bne_eq_false_iff_eq.mpr c3
    have c3b2 : (l0.length == l1.length) = true := by first | simpa using c3 | (simp at c3 ⊢; omega)
    clear c3
    have H' := Aside0.mk H
    clear H
    go_enter Tryz.func29, Tryz.ntmps29
    go_wp2
    repeat (go_quiet (fail); try go_wp2)
    go_loopg [5] k (fun kq v5 w' => ∃ (x5_1 : Int), v5 = .int .i64 x5_1 ∧ Aside0 (pumicelaw14_Ints.l0 kq l0 l1 x5_1 = some r) ∧ Aside0 (kq ≤ k) ∧ Drawn0 w w')
    case atStart => exact ⟨(0), (by first | rfl | (simp; done) | (simp [*]; done) | (simp [wrap64]; done)), H', ⟨Nat.le_refl _⟩, by repeat (first | exact Drawn0.refl _ | apply Drawn0.step)⟩
    case round =>
      clear H'
      try clear c1
      try clear c2
      try clear p2
      try clear c3
      try clear c3b0
      try clear c3b1
      try clear c3b2
      obtain ⟨x5_1, rfl, HA, HK1, ⟨m1, rfl⟩⟩ := hrel
      cases gk with
      | zero => exact absurd HA.out (by simp [pumicelaw14_Ints.l0])
      | succ k1 =>
        have H := HA.out
        clear HA
        simp only [pumicelaw14_Ints.l0] at H
        by_cases c4 : x5_1 < (l0.length : Int)
        · rw [if_pos c4] at H
          have c4b0 : decide (x5_1 < (l0.length : Int)) = true := decide_eq_true c4
          clear c4
          by_cases c5 : 0 ≤ x5_1
          · rw [if_pos c5] at H
            have c5b0 : decide (0 ≤ x5_1) = true := decide_eq_true c5
            clear c5
            by_cases c6 : x5_1 < (l1.length : Int)
            · rw [if_pos c6] at H
              have c6b0 : decide (x5_1 < (l1.length : Int)) = true := decide_eq_true c6
              clear c6
              by_cases c7 : (rd l0 x5_1) = (rd l1 x5_1)
              · rw [if_pos c7] at H
                have c7b0 : ((rd l0 x5_1) == (rd l1 x5_1)) = true := beq_iff_eq.mpr c7
                have c7b1 : ((rd l0 x5_1) != (rd l1 x5_1)) = false := bne_eq_false_iff_eq.mpr c7
                clear c7
                have H' := Aside0.mk H
                clear H
                have p101 : 0 ≤ (x5_1 : Int) := of_decide_eq_true (by first | (with_reducible assumption) | assumption)
                have q101 : x5_1 < (l0.length : Int) := of_decide_eq_true (by first | (with_reducible assumption) | assumption)
                obtain ⟨ad101, e101, hx101_0⟩ := Kd.at_int HR0.out x5_1 p101 q101
                cases e101
                replace p101 := eq_true p101
                replace q101 := eq_true q101
                have p102 : 0 ≤ (x5_1 : Int) := of_decide_eq_true (by first | (with_reducible assumption) | assumption)
                have q102 : x5_1 < (l1.length : Int) := of_decide_eq_true (by first | (with_reducible assumption) | assumption)
                obtain ⟨ad102, e102, hx102_0⟩ := Kd.at_int HR1.out x5_1 p102 q102
                cases e102
                replace p102 := eq_true p102
                replace q102 := eq_true q102
                go_wp2
                repeat (go_quiet (fail); try go_wp2)
                go_roundg k1
                case measure => have := HK1.out; omega
                case rel => exact ⟨(wrap64 (x5_1 + 1)), (by first | rfl | (simp; done) | (simp [*]; done) | (simp [wrap64]; done)), H', ⟨by have := HK1.out; omega⟩, by repeat (first | exact Drawn0.refl _ | apply Drawn0.step)⟩
              · rw [if_neg c7] at H
                exact absurd H (by simp)
            · rw [if_neg c6] at H
              exact absurd H (by simp)
          · rw [if_neg c5] at H
            exact absurd H (by simp)
        · rw [if_neg c4] at H
          have c4b0 : decide (x5_1 < (l0.length : Int)) = false := decide_eq_false c4
          clear c4
          obtain rfl := Option.some.inj H
          go_wp2
          repeat (go_quiet (fail); try go_wp2)
          go_ret
          exact ⟨by first | rfl | exact isEmpty_bne_ _ | (simp; done) | (simp [*]; done) | (simp [wrap64]; done), by repeat (first | exact Drawn0.refl _ | apply Drawn0.step)⟩
  · rw [if_neg c3] at H
    exact absurd H (by simp)

/-! ### pumiceref14_cut: function 57 -/
def pumiceref14_cut.l0 : Nat → ByteArray → Int → Int → Option (ByteArray × ByteArray × Bool)
  | 0, _, _, _ => none
  | k + 1, x0, x1, x7 => if x7 < (x0.size : Int) then (if 0 ≤ x7 then (if (bt x0 x7) = x1 then (if x7 ≤ (x0.size : Int) then (if 0 ≤ (wrap64 (x7 + 1)) then (if (wrap64 (x7 + 1)) ≤ (x0.size : Int) then (some (x0.extract 0 (x7 : Int).toNat, x0.extract ((wrap64 (x7 + 1)) : Int).toNat x0.size, true)) else (none)) else (none)) else (none)) else (pumiceref14_cut.l0 k x0 x1 (wrap64 (x7 + 1)))) else (none)) else (some (x0, (⟨#[]⟩ : ByteArray), false))
def pumiceref14_cut.f (k : Nat) (a0 : ByteArray) (a1 : Int) : Option (ByteArray × ByteArray × Bool) := pumiceref14_cut.l0 k a0 a1 0
theorem pumiceref14_cut.mono_l : ∀ k, (∀ y0 y1 y2, LeO (pumiceref14_cut.l0 k y0 y1 y2) (pumiceref14_cut.l0 (k + 1) y0 y1 y2))
  | 0 => fun _ _ _ r h => by simp [pumiceref14_cut.l0] at h
  | k + 1 => by
    have ih0 := pumiceref14_cut.mono_l k
    · intro y0 y1 y2
      unfold pumiceref14_cut.l0
      repeat' first
      | (with_reducible exact ih0 _ _ _)
      | (with_reducible exact LeO.refl _)
      | (with_reducible exact LeO.none _)
      | (with_reducible refine LeO.ite ?_ ?_)
      | (with_reducible refine LeO.bind ?_ (fun _ => ?_))
      | exact ih0 _ _ _
      | exact LeO.none _
      | refine LeO.ite ?_ ?_
      | refine LeO.bind ?_ (fun _ => ?_)
theorem pumiceref14_cut.mono : ∀ a0 a1 k, LeO (pumiceref14_cut.f k a0 a1) (pumiceref14_cut.f (k + 1) a0 a1) := by
  intro a0 a1 k
  have ih0 := pumiceref14_cut.mono_l k
  unfold pumiceref14_cut.f
  repeat' first
      | (with_reducible exact ih0 _ _ _)
      | (with_reducible exact LeO.refl _)
      | (with_reducible exact LeO.none _)
      | (with_reducible refine LeO.ite ?_ ?_)
      | (with_reducible refine LeO.bind ?_ (fun _ => ?_))
      | exact ih0 _ _ _
      | exact LeO.none _
      | refine LeO.ite ?_ ?_
      | refine LeO.bind ?_ (fun _ => ?_)
set_option maxHeartbeats 8000000 in
set_option maxRecDepth 100000 in
theorem pumiceref14_cut.calls (k : Nat) (a0 : ByteArray) (a1 : Int) (r1 : ByteArray) (r2 : ByteArray) (r3 : Bool) (w : World) (h : pumiceref14_cut.f k a0 a1 = some (r1, r2, r3)) :
    Calls Tryz.prog 57 #[.string a0, .int .u8 a1] w fun e w' => e = .returned (.tuple #[.string r1, .string r2, .bool r3]) ∧ Drawn0 w w' := by
  have H : (pumiceref14_cut.l0 k a0 a1 0) = some (r1, r2, r3) := h
  clear h
  have H' := Aside0.mk H
  clear H
  go_enter Tryz.func57, Tryz.ntmps57
  go_wp2
  repeat (go_quiet (fail); try go_wp2)
  go_loopg [7] k (fun kq v7 w' => ∃ (x7_1 : Int), v7 = .int .i64 x7_1 ∧ Aside0 (pumiceref14_cut.l0 kq a0 a1 x7_1 = some (r1, r2, r3)) ∧ Aside0 (kq ≤ k) ∧ Drawn0 w w')
  case atStart => exact ⟨(0), (by first | rfl | (simp; done) | (simp [*]; done) | (simp [wrap64]; done)), H', ⟨Nat.le_refl _⟩, by repeat (first | exact Drawn0.refl _ | apply Drawn0.step)⟩
  case round =>
    clear H'
    try clear p2
    obtain ⟨x7_1, rfl, HA, HK1, ⟨m1, rfl⟩⟩ := hrel
    cases gk with
    | zero => exact absurd HA.out (by simp [pumiceref14_cut.l0])
    | succ k1 =>
      have H := HA.out
      clear HA
      simp only [pumiceref14_cut.l0] at H
      by_cases c3 : x7_1 < (a0.size : Int)
      · rw [if_pos c3] at H
        have c3b0 : decide (x7_1 < (a0.size : Int)) = true := decide_eq_true c3
        clear c3
        by_cases c4 : 0 ≤ x7_1
        · rw [if_pos c4] at H
          have c4b0 : decide (0 ≤ x7_1) = true := decide_eq_true c4
          clear c4
          by_cases c6 : (bt a0 x7_1) = a1
          · rw [if_pos c6] at H
            have c6b0 : ((bt a0 x7_1) == a1) = true := beq_iff_eq.mpr c6
            have c6b1 : ((bt a0 x7_1) != a1) = false := bne_eq_false_iff_eq.mpr c6
            clear c6
            have c7b0 := eq_true (of_decide_eq_true (by first | (with_reducible assumption) | assumption) : 0 ≤ x7_1)
            by_cases c8 : x7_1 ≤ (a0.size : Int)
            · rw [if_pos c8] at H
              have c8b0 := eq_true c8
              have c8b1 : decide (x7_1 ≤ (a0.size : Int)) = true := decide_eq_true c8
              clear c8
              obtain ⟨ji9, hji9⟩ : ∃ j_ : Int, (wrap64 (x7_1 + 1)) = j_ := ⟨_, rfl⟩
              replace H : (if 0 ≤ (ji9) then (if (ji9) ≤ (a0.size : Int) then (some (a0.extract 0 (x7_1 : Int).toNat, a0.extract ((ji9) : Int).toNat a0.size, true)) else (none)) else (none)) = some (r1, r2, r3) := by first | (rw [hji9] at H; exact H) | (simp only [hji9] at H ⊢; exact H)
              have hji9w : (IntKind.i64.wrap (x7_1 + 1)) = ji9 := (i64_w _).trans hji9
              by_cases c10 : 0 ≤ (ji9)
              · rw [if_pos c10] at H
                have c10b0 := eq_true c10
                have c10b1 : decide (0 ≤ (ji9)) = true := decide_eq_true c10
                clear c10
                by_cases c11 : (ji9) ≤ (a0.size : Int)
                · rw [if_pos c11] at H
                  have c11b0 := eq_true c11
                  have c11b1 : decide ((ji9) ≤ (a0.size : Int)) = true := decide_eq_true c11
                  clear c11
                  simp only [Option.some.injEq, Prod.mk.injEq] at H
                  obtain ⟨rfl, rfl, rfl⟩ := H
                  have p5 : 0 ≤ (x7_1 : Int) := of_decide_eq_true (by first | (with_reducible assumption) | assumption)
                  have q5 : x7_1 < (a0.size : Int) := of_decide_eq_true (by first | (with_reducible assumption) | assumption)
                  have hx5 := bt_at a0 x7_1
                  replace p5 := eq_true p5
                  replace q5 := eq_true q5
                  go_wp2
                  repeat (go_quiet (fail); try go_wp2)
                  go_ret3
                  exact ⟨by first | rfl | exact isEmpty_bne_ _ | (simp; done) | (simp only [← hji9] <;> (first | rfl | simp)) | (simp [*]; done), by repeat (first | exact Drawn0.refl _ | apply Drawn0.step)⟩
                · rw [if_neg c11] at H
                  exact absurd H (by simp)
              · rw [if_neg c10] at H
                exact absurd H (by simp)
            · rw [if_neg c8] at H
              exact absurd H (by simp)
          · rw [if_neg c6] at H
            have c6b0 : ((bt a0 x7_1) == a1) = false := beq_eq_false_iff_ne.mpr c6
            have c6b1 : ((bt a0 x7_1) != a1) = true := bne_iff_ne.mpr c6
            have H' := Aside0.mk H
            clear H
            have p5 : 0 ≤ (x7_1 : Int) := of_decide_eq_true (by first | (with_reducible assumption) | assumption)
            have q5 : x7_1 < (a0.size : Int) := of_decide_eq_true (by first | (with_reducible assumption) | assumption)
            have hx5 := bt_at a0 x7_1
            replace p5 := eq_true p5
            replace q5 := eq_true q5
            go_wp2
            repeat (go_quiet (fail); try go_wp2)
            go_roundg k1
            case measure => have := HK1.out; omega
            case rel => exact ⟨(wrap64 (x7_1 + 1)), (by first | rfl | (simp; done) | (simp [*]; done) | (simp [wrap64]; done)), H', ⟨by have := HK1.out; omega⟩, by repeat (first | exact Drawn0.refl _ | apply Drawn0.step)⟩
        · rw [if_neg c4] at H
          exact absurd H (by simp)
      · rw [if_neg c3] at H
        have c3b0 : decide (x7_1 < (a0.size : Int)) = false := decide_eq_false c3
        clear c3
        simp only [Option.some.injEq, Prod.mk.injEq] at H
        obtain ⟨rfl, rfl, rfl⟩ := H
        go_wp2
        repeat (go_quiet (fail); try go_wp2)
        go_ret3
        exact ⟨by first | rfl | exact isEmpty_bne_ _ | (simp; done) | (simp [*]; done) | (simp [wrap64]; done), by repeat (first | exact Drawn0.refl _ | apply Drawn0.step)⟩

/-! ### pumiceref14_numbers: function 58 -/
mutual
def pumiceref14_numbers.l0 : Nat → ByteArray → List Int → Option (List Int)
  | 0, _, _ => none
  | k + 1, x0, x3 => if x0.toList = ([] : List UInt8) then (some x3) else ((pumiceref14_cut.f k x0 32).bind fun bt103 => (pumiceref14_numbers.l1 k x3 bt103.1 bt103.2.1 0 0))
def pumiceref14_numbers.l1 : Nat → List Int → ByteArray → ByteArray → Int → Int → Option (List Int)
  | 0, _, _, _, _, _ => none
  | k + 1, x3, x4, x5, x7, x8 => if x8 < (x4.size : Int) then (if 0 ≤ x8 then (if (bt x4 x8) < 48 then (some x3) else (if (bt x4 x8) > 57 then (some x3) else (if (x4.size : Int) > 9 then (some x3) else (pumiceref14_numbers.l1 k x3 x4 x5 (wrap64 ((wrap64 (x7 * 10)) + (((bt x4 x8) - 48) % 256))) (wrap64 (x8 + 1)))))) else (none)) else (if x3.length < 17592186044416 then (pumiceref14_numbers.l0 k x5 (x3 ++ [x7])) else (none))
end
def pumiceref14_numbers.f (k : Nat) (a0 : ByteArray) : Option (List Int) := pumiceref14_numbers.l0 k a0 ([] : List Int)
theorem pumiceref14_numbers.mono_l : ∀ k, (∀ y0 y1, LeO (pumiceref14_numbers.l0 k y0 y1) (pumiceref14_numbers.l0 (k + 1) y0 y1)) ∧ (∀ y0 y1 y2 y3 y4, LeO (pumiceref14_numbers.l1 k y0 y1 y2 y3 y4) (pumiceref14_numbers.l1 (k + 1) y0 y1 y2 y3 y4))
  | 0 => ⟨fun _ _ r h => by simp [pumiceref14_numbers.l0] at h, fun _ _ _ _ _ r h => by simp [pumiceref14_numbers.l1] at h⟩
  | k + 1 => by
    obtain ⟨ih0, ih1⟩ := pumiceref14_numbers.mono_l k
    refine ⟨?_, ?_⟩
    · intro y0 y1
      unfold pumiceref14_numbers.l0
      repeat' first
      | (with_reducible exact ih0 _ _)
      | (with_reducible exact ih1 _ _ _ _ _)
      | (with_reducible exact pumiceref14_cut.mono _ _ _)
      | (with_reducible exact LeO.refl _)
      | (with_reducible exact LeO.none _)
      | (with_reducible refine LeO.ite ?_ ?_)
      | (with_reducible refine LeO.bind ?_ (fun _ => ?_))
      | exact ih0 _ _
      | exact ih1 _ _ _ _ _
      | exact pumiceref14_cut.mono _ _ _
      | exact LeO.none _
      | refine LeO.ite ?_ ?_
      | refine LeO.bind ?_ (fun _ => ?_)
    · intro y0 y1 y2 y3 y4
      unfold pumiceref14_numbers.l1
      repeat' first
      | (with_reducible exact ih0 _ _)
      | (with_reducible exact ih1 _ _ _ _ _)
      | (with_reducible exact pumiceref14_cut.mono _ _ _)
      | (with_reducible exact LeO.refl _)
      | (with_reducible exact LeO.none _)
      | (with_reducible refine LeO.ite ?_ ?_)
      | (with_reducible refine LeO.bind ?_ (fun _ => ?_))
      | exact ih0 _ _
      | exact ih1 _ _ _ _ _
      | exact pumiceref14_cut.mono _ _ _
      | exact LeO.none _
      | refine LeO.ite ?_ ?_
      | refine LeO.bind ?_ (fun _ => ?_)
theorem pumiceref14_numbers.mono : ∀ a0 k, LeO (pumiceref14_numbers.f k a0) (pumiceref14_numbers.f (k + 1) a0) := by
  intro a0 k
  obtain ⟨ih0, ih1⟩ := pumiceref14_numbers.mono_l k
  unfold pumiceref14_numbers.f
  repeat' first
      | (with_reducible exact ih0 _ _)
      | (with_reducible exact ih1 _ _ _ _ _)
      | (with_reducible exact pumiceref14_cut.mono _ _ _)
      | (with_reducible exact LeO.refl _)
      | (with_reducible exact LeO.none _)
      | (with_reducible refine LeO.ite ?_ ?_)
      | (with_reducible refine LeO.bind ?_ (fun _ => ?_))
      | exact ih0 _ _
      | exact ih1 _ _ _ _ _
      | exact pumiceref14_cut.mono _ _ _
      | exact LeO.none _
      | refine LeO.ite ?_ ?_
      | refine LeO.bind ?_ (fun _ => ?_)
set_option maxHeartbeats 8000000 in
set_option maxRecDepth 100000 in
theorem pumiceref14_numbers.calls (k : Nat) (a0 : ByteArray) (r : List Int) (w : World) (h : pumiceref14_numbers.f k a0 = some r) :
    Calls Tryz.prog 58 #[.string a0] w fun e w' => ∃ v0_ : Value, e = .returned (v0_) ∧ Kd.R (Kd.int .i64) 3 w' w.heap.size (fun _ => True) v0_ r ∧ Below w.heap.size w w' := by
  have HB := Aside0.mk (Below.refl w.heap.size w)
  have H : (pumiceref14_numbers.l0 k a0 ([] : List Int)) = some r := h
  clear h
  have H' := Aside0.mk H
  clear H
  go_enter Tryz.func58, Tryz.ntmps58
  go_wp2
  go_loopg [0, 3] k (fun kq v0 v3 w' => ∃ (x0_1 : ByteArray) (x3_1 : List Int), v0 = .string x0_1 ∧ Aside0 (pumiceref14_numbers.l0 kq x0_1 x3_1 = some r) ∧ Aside0 (kq ≤ k) ∧ Aside0 (Kd.R (Kd.int .i64) 3 w' w.heap.size (fun _ => True) v3 x3_1) ∧ Aside0 (Below w.heap.size w w'))
  case atStart => exact ⟨(a0), (([] : List Int)), (by first | rfl | (simp; done) | (simp [*]; done) | (simp [wrap64]; done)), H', ⟨Nat.le_refl _⟩, ⟨by first | exact Kd.R_nil _ _ _ _ _ | exact Kd.N_nil _ _ _ _ _ | exact Kd.V_nil _ _ _ _ _ | exact Kd.Q_nil _ _ _ _ _ | exact Kd.S_nil _ _ _ _ _⟩, ⟨by repeat (first | (with_reducible first | exact HB.out | apply below_alloc | apply pw_below_drewN | apply below_drew1) | exact HB.out)⟩⟩
  case round =>
    clear H'
    obtain ⟨x0_1, x3_1, rfl, HA, HK1, HO_3, HB⟩ := hrel
    cases gk with
    | zero => exact absurd HA.out (by simp [pumiceref14_numbers.l0])
    | succ k1 =>
      have H := HA.out
      clear HA
      simp only [pumiceref14_numbers.l0] at H
      by_cases c2 : x0_1.toList = ([] : List UInt8)
      · rw [if_pos c2] at H
        have c2b0 : (x0_1.toList == ([] : List UInt8)) = true := beq_iff_eq.mpr c2
        have c2b1 : (x0_1.toList != ([] : List UInt8)) = false := bne_eq_false_iff_eq.mpr c2
        clear c2
        obtain rfl := Option.some.inj H
        go_wp2
        go_ret
        exact ⟨_, by first | rfl | (simp [errW_none, errW_some] <;> rfl) | (simp [*, errW_none, errW_some] <;> rfl), by (with_reducible repeat (first | apply Kd.R_alloc | apply Kd.R_drewN | apply Kd.R_drew)); exact HO_3.out, by repeat (first | (with_reducible first | exact HB.out | apply below_alloc | apply pw_below_drewN | apply below_drew1) | exact HB.out)⟩
      · rw [if_neg c2] at H
        have c2b0 : (x0_1.toList == ([] : List UInt8)) = false := beq_eq_false_iff_ne.mpr c2
        have c2b1 : (x0_1.toList != ([] : List UInt8)) = true := bne_iff_ne.mpr c2
        replace H := Option.bind_eq_some_iff.mp H
        obtain ⟨⟨t103, t104, t105⟩, A30, H⟩ := H
        replace H : (pumiceref14_numbers.l1 k1 x3_1 t103 t104 0 0) = some r := H
        have A3 := Aside0.mk A30
        clear A30
        have H' := Aside0.mk H
        clear H
        go_wp2_with (first | ((with_reducible refine gate_callee (f := 57) rfl ?_); refine goesL_ (some 13) rfl rfl Tryz.func57 (by kernel_rfl) rfl #[.string x0_1, .int .u8 32] rfl (by (try simp only [List.map_toArray, List.map_cons, List.map_nil]); first | done | rfl | (simp only [List.length_drop, List.length_take]; rfl)) ?_; (with_reducible refine (pumiceref14_cut.calls k1 x0_1 32 t103 t104 t105 _ A3.out).mono ?_); rintro e w' ⟨rfl, ⟨nd, rfl⟩⟩; refine ⟨_, rfl, ?_⟩))
        go_loopg [7, 8] k1 (fun kq v7 v8 w' => ∃ (x7_2 : Int) (x8_2 : Int), v7 = .int .i64 x7_2 ∧ v8 = .int .i64 x8_2 ∧ Aside0 (pumiceref14_numbers.l1 kq x3_1 t103 t104 x7_2 x8_2 = some r) ∧ Aside0 (kq ≤ k1) ∧ Aside0 (Kd.R (Kd.int .i64) 3 w' w.heap.size (fun _ => True) u3 x3_1) ∧ Aside0 (Below w.heap.size w w'))
        case atStart => exact ⟨(0), (0), (by first | rfl | (simp; done) | (simp [*]; done) | (simp [wrap64]; done)), (by first | rfl | (simp; done) | (simp [*]; done) | (simp [wrap64]; done)), H', ⟨Nat.le_refl _⟩, ⟨by (with_reducible repeat (first | apply Kd.R_alloc | apply Kd.R_drewN | apply Kd.R_drew)); exact HO_3.out⟩, ⟨by repeat (first | (with_reducible first | exact HB.out | apply below_alloc | apply pw_below_drewN | apply below_drew1) | exact HB.out)⟩⟩
        case round =>
          clear H'
          try clear c2
          try clear c2b0
          try clear c2b1
          try clear p2
          obtain ⟨x7_2, x8_2, rfl, rfl, HA, HK2, HO_3, HB⟩ := hrel
          cases gk with
          | zero => exact absurd HA.out (by simp [pumiceref14_numbers.l1])
          | succ k2 =>
            have H := HA.out
            clear HA
            simp only [pumiceref14_numbers.l1] at H
            by_cases c4 : x8_2 < (t103.size : Int)
            · rw [if_pos c4] at H
              have c4b0 : decide (x8_2 < (t103.size : Int)) = true := decide_eq_true c4
              clear c4
              by_cases c5 : 0 ≤ x8_2
              · rw [if_pos c5] at H
                have c5b0 : decide (0 ≤ x8_2) = true := decide_eq_true c5
                clear c5
                by_cases c7 : (bt t103 x8_2) < 48
                · rw [if_pos c7] at H
                  have c7b0 : decide ((bt t103 x8_2) < 48) = true := decide_eq_true c7
                  clear c7
                  obtain rfl := Option.some.inj H
                  have p6 : 0 ≤ (x8_2 : Int) := of_decide_eq_true (by first | (with_reducible assumption) | assumption)
                  have q6 : x8_2 < (t103.size : Int) := of_decide_eq_true (by first | (with_reducible assumption) | assumption)
                  have hx6 := bt_at t103 x8_2
                  replace p6 := eq_true p6
                  replace q6 := eq_true q6
                  go_wp2
                  go_ret
                  exact ⟨_, by first | rfl | (simp [errW_none, errW_some] <;> rfl) | (simp [*, errW_none, errW_some] <;> rfl), by (with_reducible repeat (first | apply Kd.R_alloc | apply Kd.R_drewN | apply Kd.R_drew)); exact HO_3.out, by repeat (first | (with_reducible first | exact HB.out | apply below_alloc | apply pw_below_drewN | apply below_drew1) | exact HB.out)⟩
                · rw [if_neg c7] at H
                  have c7b0 : decide ((bt t103 x8_2) < 48) = false := decide_eq_false c7
                  clear c7
                  by_cases c9 : (bt t103 x8_2) > 57
                  · rw [if_pos c9] at H
                    have c9b0 : decide (57 < (bt t103 x8_2)) = true := decide_eq_true c9
                    clear c9
                    obtain rfl := Option.some.inj H
                    have p6 : 0 ≤ (x8_2 : Int) := of_decide_eq_true (by first | (with_reducible assumption) | assumption)
                    have q6 : x8_2 < (t103.size : Int) := of_decide_eq_true (by first | (with_reducible assumption) | assumption)
                    have hx6 := bt_at t103 x8_2
                    replace p6 := eq_true p6
                    replace q6 := eq_true q6
                    have p8 : 0 ≤ (x8_2 : Int) := of_decide_eq_true (by first | (with_reducible assumption) | assumption)
                    have q8 : x8_2 < (t103.size : Int) := of_decide_eq_true (by first | (with_reducible assumption) | assumption)
                    have hx8 := bt_at t103 x8_2
                    replace p8 := eq_true p8
                    replace q8 := eq_true q8
                    go_wp2
                    go_ret
                    exact ⟨_, by first | rfl | (simp [errW_none, errW_some] <;> rfl) | (simp [*, errW_none, errW_some] <;> rfl), by (with_reducible repeat (first | apply Kd.R_alloc | apply Kd.R_drewN | apply Kd.R_drew)); exact HO_3.out, by repeat (first | (with_reducible first | exact HB.out | apply below_alloc | apply pw_below_drewN | apply below_drew1) | exact HB.out)⟩
                  · rw [if_neg c9] at H
                    have c9b0 : decide (57 < (bt t103 x8_2)) = false := decide_eq_false c9
                    clear c9
                    by_cases c10 : (t103.size : Int) > 9
                    · rw [if_pos c10] at H
                      have c10b0 : decide (9 < (t103.size : Int)) = true := decide_eq_true c10
                      have c10b1 : decide (9 < t103.size) = true := decide_eq_true (by omega)
                      clear c10
                      obtain rfl := Option.some.inj H
                      have p6 : 0 ≤ (x8_2 : Int) := of_decide_eq_true (by first | (with_reducible assumption) | assumption)
                      have q6 : x8_2 < (t103.size : Int) := of_decide_eq_true (by first | (with_reducible assumption) | assumption)
                      have hx6 := bt_at t103 x8_2
                      replace p6 := eq_true p6
                      replace q6 := eq_true q6
                      have p8 : 0 ≤ (x8_2 : Int) := of_decide_eq_true (by first | (with_reducible assumption) | assumption)
                      have q8 : x8_2 < (t103.size : Int) := of_decide_eq_true (by first | (with_reducible assumption) | assumption)
                      have hx8 := bt_at t103 x8_2
                      replace p8 := eq_true p8
                      replace q8 := eq_true q8
                      go_wp2
                      go_ret
                      exact ⟨_, by first | rfl | (simp [errW_none, errW_some] <;> rfl) | (simp [*, errW_none, errW_some] <;> rfl), by (with_reducible repeat (first | apply Kd.R_alloc | apply Kd.R_drewN | apply Kd.R_drew)); exact HO_3.out, by repeat (first | (with_reducible first | exact HB.out | apply below_alloc | apply pw_below_drewN | apply below_drew1) | exact HB.out)⟩
                    · rw [if_neg c10] at H
                      have c10b0 : decide (9 < (t103.size : Int)) = false := decide_eq_false c10
                      have c10b1 : decide (9 < t103.size) = false := decide_eq_false (by omega)
                      clear c10
                      have H' := Aside0.mk H
                      clear H
                      have p6 : 0 ≤ (x8_2 : Int) := of_decide_eq_true (by first | (with_reducible assumption) | assumption)
                      have q6 : x8_2 < (t103.size : Int) := of_decide_eq_true (by first | (with_reducible assumption) | assumption)
                      have hx6 := bt_at t103 x8_2
                      replace p6 := eq_true p6
                      replace q6 := eq_true q6
                      have p8 : 0 ≤ (x8_2 : Int) := of_decide_eq_true (by first | (with_reducible assumption) | assumption)
                      have q8 : x8_2 < (t103.size : Int) := of_decide_eq_true (by first | (with_reducible assumption) | assumption)
                      have hx8 := bt_at t103 x8_2
                      replace p8 := eq_true p8
                      replace q8 := eq_true q8
                      have p11 : 0 ≤ (x8_2 : Int) := of_decide_eq_true (by first | (with_reducible assumption) | assumption)
                      have q11 : x8_2 < (t103.size : Int) := of_decide_eq_true (by first | (with_reducible assumption) | assumption)
                      have hx11 := bt_at t103 x8_2
                      replace p11 := eq_true p11
                      replace q11 := eq_true q11
                      go_wp2
                      go_roundg k2
                      case measure => have := HK1.out; have := HK2.out; omega
                      case rel => exact ⟨(wrap64 ((wrap64 (x7_2 * 10)) + (((bt t103 x8_2) - 48) % 256))), (wrap64 (x8_2 + 1)), (by first | rfl | (simp; done) | (simp [*]; done) | (simp [wrap64]; done)), (by first | rfl | (simp; done) | (simp [*]; done) | (simp [wrap64]; done)), H', ⟨by have := HK1.out; have := HK2.out; omega⟩, ⟨by (with_reducible repeat (first | apply Kd.R_alloc | apply Kd.R_drewN | apply Kd.R_drew)); exact HO_3.out⟩, ⟨by repeat (first | (with_reducible first | exact HB.out | apply below_alloc | apply pw_below_drewN | apply below_drew1) | exact HB.out)⟩⟩
              · rw [if_neg c5] at H
                exact absurd H (by simp)
            · rw [if_neg c4] at H
              have c4b0 : decide (x8_2 < (t103.size : Int)) = false := decide_eq_false c4
              clear c4
              by_cases c12 : x3_1.length < 17592186044416
              · rw [if_pos c12] at H
                have LMc12 := Aside0.mk c12
                clear c12
                obtain ⟨y106, hy106⟩ : ∃ y_ : List Int, y_ = (x3_1 ++ [x7_2]) := ⟨_, rfl⟩
                replace H : (pumiceref14_numbers.l0 k2 t104 y106) = some r := by first | (rw [hy106]; with_reducible exact H) | (have H2_ := (Option.bind_some _ _).symm.trans H; rw [hy106]; with_reducible exact H2_) | (have H2_ := (Option.bind_some _ _).symm.trans H; with_reducible exact H2_) | with_reducible exact H | (rw [hy106]; exact H) | exact H
                have Ny106 := Aside0.mk hy106
                clear hy106
                have H' := Aside0.mk H
                clear H
                go_wp2_with (first | ((with_reducible refine gate_builtin (b := .append) (xs := #[.tmp 47, .tmp 49]) rfl ?_); (try (refine gate_guard (by rfl) ?_; dsimp only)); at_builtin; refine Kd.R_append (Kd.int .i64) (w0 := w) w.heap.size rfl (.tmp 47) (.tmp 49) 33 3 (.int .i64 0) 8 rfl Tryz.underlying33 info3 rfl (by decide) (by omega) u3 x3_1 x7_2 [.int .i64 x7_2] (fun _ => True) (fun _ => False) rfl rfl ?aP (fun _ hk => hk.elim) ?aF ?aO ?aB ?aS ?aL ?_; (case aP => exact rfl); (case aB => exact (by repeat (first | (with_reducible first | exact HB.out | apply below_alloc | apply pw_below_drewN | apply below_drew1) | exact HB.out))); (case aF => exact (fun _ _ => trivial)); (case aO => exact (by (with_reducible repeat (first | apply Kd.R_alloc | apply Kd.R_drewN | apply Kd.R_drew)); exact HO_3.out)); (case aS => exact (below_size (by repeat (first | (with_reducible first | exact HB.out | apply below_alloc | apply pw_below_drewN | apply below_drew1) | exact HB.out)))); (case aL => have := LMc12.out; omega); intro v107 w13 ho hb hg hat; rw [← Ny106.out] at ho; have n0_ := Aside0.mk (hb); have n1_ := Aside0.mk (ho); clear HB; clear HO_3; have HB := n0_; have HO108 := n1_; clear n0_ n1_; clear ho hb hg hat))
                go_roundg k2
                case measure => have := HK1.out; have := HK2.out; omega
                case rel => exact ⟨(t104), (y106), (by first | rfl | (simp; done) | (simp [*]; done) | (simp [wrap64]; done)), H', ⟨by have := HK1.out; have := HK2.out; omega⟩, ⟨by (with_reducible repeat (first | apply Kd.R_alloc | apply Kd.R_drewN | apply Kd.R_drew)); exact HO108.out⟩, ⟨by repeat (first | (with_reducible first | exact HB.out | apply below_alloc | apply pw_below_drewN | apply below_drew1) | exact HB.out)⟩⟩
              · rw [if_neg c12] at H
                exact absurd H (by simp)

/-! ### pumiceref04_Decimal: function 91 -/
mutual
def pumiceref04_Decimal.j0 : Nat → Int → Int → ByteArray → Option (ByteArray)
  | 0, _, _, _ => none
  | k + 1, x0, x3, x4 => if x0 < 0 then (if x4.toList = ([] : List UInt8) then ((some (([(wrap64 (48 + (wrap64 (-x3)))) % 256] : List Int) : List Int)).bind fun y110 => (if 1 + (strOfNums y110).size ≤ 9223372036854775807 then (some ((⟨#[45]⟩ : ByteArray) ++ (strOfNums y110))) else (none))) else ((some (([(wrap64 (48 + (wrap64 (-x3)))) % 256] : List Int) : List Int)).bind fun y113 => (if x4.size + (strOfNums y113).size ≤ 9223372036854775807 then (some (x4 ++ (strOfNums y113))) else (none)))) else ((some (([(wrap64 (48 + x3)) % 256] : List Int) : List Int)).bind fun y116 => (if x4.size + (strOfNums y116).size ≤ 9223372036854775807 then (some (x4 ++ (strOfNums y116))) else (none)))
def pumiceref04_Decimal.f : Nat → Int → Option (ByteArray)
  | 0, _ => none
  | k + 1, a0 => if (wrap64 (Int.tdiv a0 10)) = 0 then (pumiceref04_Decimal.j0 k a0 (Int.tmod a0 10) (⟨#[]⟩ : ByteArray)) else ((pumiceref04_Decimal.f k (wrap64 (Int.tdiv a0 10))).bind fun t109 => (pumiceref04_Decimal.j0 k a0 (Int.tmod a0 10) t109))
end
theorem pumiceref04_Decimal.mono_l : ∀ k, (∀ y0, LeO (pumiceref04_Decimal.f k y0) (pumiceref04_Decimal.f (k + 1) y0)) ∧ (∀ y0 y1 y2, LeO (pumiceref04_Decimal.j0 k y0 y1 y2) (pumiceref04_Decimal.j0 (k + 1) y0 y1 y2))
  | 0 => ⟨fun _ r h => by simp [pumiceref04_Decimal.f] at h, fun _ _ _ r h => by simp [pumiceref04_Decimal.j0] at h⟩
  | k + 1 => by
    obtain ⟨ih0, ih1⟩ := pumiceref04_Decimal.mono_l k
    refine ⟨?_, ?_⟩
    · intro y0
      unfold pumiceref04_Decimal.f
      repeat' first
      | (with_reducible exact ih0 _)
      | (with_reducible exact ih1 _ _ _)
      | (with_reducible exact LeO.refl _)
      | (with_reducible exact LeO.none _)
      | (with_reducible refine LeO.ite ?_ ?_)
      | (with_reducible refine LeO.bind ?_ (fun _ => ?_))
      | exact ih0 _
      | exact ih1 _ _ _
      | exact LeO.none _
      | refine LeO.ite ?_ ?_
      | refine LeO.bind ?_ (fun _ => ?_)
    · intro y0 y1 y2
      unfold pumiceref04_Decimal.j0
      repeat' first
      | (with_reducible exact ih0 _)
      | (with_reducible exact ih1 _ _ _)
      | (with_reducible exact LeO.refl _)
      | (with_reducible exact LeO.none _)
      | (with_reducible refine LeO.ite ?_ ?_)
      | (with_reducible refine LeO.bind ?_ (fun _ => ?_))
      | exact ih0 _
      | exact ih1 _ _ _
      | exact LeO.none _
      | refine LeO.ite ?_ ?_
      | refine LeO.bind ?_ (fun _ => ?_)
theorem pumiceref04_Decimal.mono : ∀ a0 k, LeO (pumiceref04_Decimal.f k a0) (pumiceref04_Decimal.f (k + 1) a0) := by
  intro a0 k
  obtain ⟨ih0, ih1⟩ := pumiceref04_Decimal.mono_l k
  exact ih0 a0
set_option maxHeartbeats 8000000 in
set_option maxRecDepth 100000 in
theorem pumiceref04_Decimal.calls (k : Nat) : ∀ (a0 : Int) (r : ByteArray) (w : World) (h : pumiceref04_Decimal.f k a0 = some r),
    Calls Tryz.prog 91 #[.int .i64 a0] w fun e w' => e = .returned (.string r) ∧ Below w.heap.size w w' := by
  induction k using Nat.strongRecOn with
  | _ k ih =>
  intro a0 r w h
  cases k with
  | zero => exact absurd h (by simp [pumiceref04_Decimal.f])
  | succ k =>
  simp only [pumiceref04_Decimal.f] at h
  have HB := Aside0.mk (Below.refl w.heap.size w)
  have H : (if (wrap64 (Int.tdiv a0 10)) = 0 then (pumiceref04_Decimal.j0 k a0 (Int.tmod a0 10) (⟨#[]⟩ : ByteArray)) else ((pumiceref04_Decimal.f k (wrap64 (Int.tdiv a0 10))).bind fun t109 => (pumiceref04_Decimal.j0 k a0 (Int.tmod a0 10) t109))) = some r := h
  clear h
  have HC2 := Aside0.mk H
  clear H
  go_enter Tryz.func91, Tryz.ntmps91
  go_upto_if 9 with (fail)
  go_cut [4] (fun v4 wc => ∃ (kq : Nat) (x4_1 : ByteArray), v4 = .string x4_1 ∧ Aside0 (pumiceref04_Decimal.j0 kq a0 (Int.tmod a0 10) x4_1 = some r) ∧ Aside0 (kq ≤ k) ∧ Aside0 (Below w.heap.size w wc))
  case first =>
    have H := HC2.out
    clear HC2
    by_cases c3 : (wrap64 (Int.tdiv a0 10)) = 0
    · rw [if_pos c3] at H
      have c3b0 : ((wrap64 (Int.tdiv a0 10)) == 0) = true := beq_iff_eq.mpr c3
      have c3b1 : ((wrap64 (Int.tdiv a0 10)) != 0) = false := bne_eq_false_iff_eq.mpr c3
      clear c3
      (first | rw [c3b0] | (simp only [i64_w, i32_w]; rw [c3b0]) | skip)
      have H' := Aside0.mk H
      clear H
      go_wp2
      go_meet
      case rel => exact ⟨_, ((⟨#[]⟩ : ByteArray)), (by first | rfl | (simp; done) | (simp [*]; done) | (simp [wrap64]; done)), H', ⟨by first | omega | exact Nat.le_refl _⟩, ⟨by repeat (first | (with_reducible first | exact HB.out | apply below_alloc | apply pw_below_drewN | apply below_drew1) | exact HB.out)⟩⟩
    · rw [if_neg c3] at H
      have c3b0 : ((wrap64 (Int.tdiv a0 10)) == 0) = false := beq_eq_false_iff_ne.mpr c3
      have c3b1 : ((wrap64 (Int.tdiv a0 10)) != 0) = true := bne_iff_ne.mpr c3
      (first | rw [c3b0] | (simp only [i64_w, i32_w]; rw [c3b0]) | skip)
      replace H := Option.bind_eq_some_iff.mp H
      obtain ⟨t109, A40, H⟩ := H
      replace H : (pumiceref04_Decimal.j0 k a0 (Int.tmod a0 10) t109) = some r := H
      have A4 := Aside0.mk A40
      clear A40
      have H' := Aside0.mk H
      clear H
      go_wp2_with (first | ((with_reducible refine gate_callee (f := 91) rfl ?_); refine goesL_ (some 12) rfl rfl Tryz.func91 (by kernel_rfl) rfl #[.int .i64 (wrap64 (Int.tdiv a0 10))] rfl (by (try simp only [List.map_toArray, List.map_cons, List.map_nil]); first | done | rfl | (simp only [List.length_drop, List.length_take]; rfl)) ?_; (with_reducible refine (ih k (by omega) (wrap64 (Int.tdiv a0 10)) t109 _ A4.out).mono ?_); rintro e w5 ⟨rfl, hb⟩; refine ⟨_, rfl, ?_⟩; have n0_ := Aside0.mk (below_step (by repeat (first | (with_reducible first | exact HB.out | apply below_alloc | apply pw_below_drewN | apply below_drew1) | exact HB.out)) hb); clear HB; have HB := n0_; clear n0_; (try clear hb); (try clear hb2); (try clear hk); (try clear hi)))
      go_meet
      case rel => exact ⟨_, (t109), (by first | rfl | (simp; done) | (simp [*]; done) | (simp [wrap64]; done)), H', ⟨by first | omega | exact Nat.le_refl _⟩, ⟨by repeat (first | (with_reducible first | exact HB.out | apply below_alloc | apply pw_below_drewN | apply below_drew1) | exact HB.out)⟩⟩
  case rest =>
    clear HC2
    try clear p2
    try clear c3
    try clear c3b0
    try clear c3b1
    obtain ⟨kq, x4_1, rfl, HA, HJ1, HB⟩ := hcut
    cases kq with
    | zero => exact absurd HA.out (by simp [pumiceref04_Decimal.j0])
    | succ kj1 =>
      have H := HA.out
      clear HA
      simp only [pumiceref04_Decimal.j0] at H
      by_cases c6 : a0 < 0
      · rw [if_pos c6] at H
        have c6b0 : decide (a0 < 0) = true := decide_eq_true c6
        clear c6
        by_cases c7 : x4_1.toList = ([] : List UInt8)
        · rw [if_pos c7] at H
          have c7b0 : (x4_1.toList == ([] : List UInt8)) = true := beq_iff_eq.mpr c7
          have c7b1 : (x4_1.toList != ([] : List UInt8)) = false := bne_eq_false_iff_eq.mpr c7
          clear c7
          obtain ⟨y110, hy110⟩ : ∃ y_ : List Int, y_ = (([(wrap64 (48 + (wrap64 (-(Int.tmod a0 10))))) % 256] : List Int)) := ⟨_, rfl⟩
          replace H : (if 1 + (strOfNums y110).size ≤ 9223372036854775807 then (some ((⟨#[45]⟩ : ByteArray) ++ (strOfNums y110))) else (none)) = some r := by first | (rw [hy110]; with_reducible exact H) | (have H2_ := (Option.bind_some _ _).symm.trans H; rw [hy110]; with_reducible exact H2_) | (have H2_ := (Option.bind_some _ _).symm.trans H; with_reducible exact H2_) | with_reducible exact H | (rw [hy110]; exact H) | exact H
          have Ny110 := Aside0.mk hy110
          clear hy110
          by_cases c8 : 1 + (strOfNums y110).size ≤ 9223372036854775807
          · rw [if_pos c8] at H
            have c8b0 := eq_true c8
            have c8b1 : decide (1 + (strOfNums y110).size ≤ 9223372036854775807) = true := decide_eq_true c8
            try have c8b2 : (9223372036854775807 < 1 + (strOfNums y110).size) = False := eq_false (Nat.not_lt.2 c8)
            try (have c8s := c8; simp [] at c8s)
            obtain rfl := Option.some.inj H
            go_wp2_with (first | ((with_reducible refine gate_dst (N := 23) rfl ?_); refine Kd.R_lit (Kd.int .u8) _ 5 ?hg (N := 23) ?hd (xs := ([(wrap64 (48 + (wrap64 (-(Int.tmod a0 10))))) % 256] : List Int)) (inner := [.int .u8 ((wrap64 (48 + (wrap64 (-(Int.tmod a0 10))))) % 256)]) (ok := fun _ => True) (okp := fun _ => True) ?hr ?hp (fun _ hk => hk) trivial (Below.refl _ _) (Nat.le_refl _) (by simp) ?_; (case hd => rfl); (case hg => rfl); (case hr => first | (go_simp; done) | (go_simp; rfl)); (case hp => exact (Reps.one (show Kd.M (Kd.int .u8) _ _ _ ((wrap64 (48 + (wrap64 (-(Int.tmod a0 10))))) % 256) [.int .u8 ((wrap64 (48 + (wrap64 (-(Int.tmod a0 10))))) % 256)] from rfl) (Reps.none _ _))); intro v111 w9 ho10 hb hg_ hnew_; clear hg_ hnew_; (first | rw [← Ny110.out] at ho10 | (simp only [Int.reduceToNat] at ho10; rw [← Ny110.out] at ho10)); have n0_ := Aside0.mk (Kd.R_lower ho10 (below_size (by repeat (first | (with_reducible first | exact HB.out | apply below_alloc | apply pw_below_drewN | apply below_drew1) | exact HB.out)))); have n1_ := Aside0.mk (below_step (by repeat (first | (with_reducible first | exact HB.out | apply below_alloc | apply pw_below_drewN | apply below_drew1) | exact HB.out)) hb); clear HB; have HO112 := n0_; have HB := n1_; clear n0_ n1_; clear hb ho10; have hcv11 := own_string (P := Tryz.prog) Tryz.underlying59 Tryz.underlying5 Tryz.underlying9 (Kd.own_of_R HO112.out)))
            go_ret
            exact ⟨by first | rfl | exact isEmpty_bne_ _ | (simp [errW_none, errW_some] <;> rfl) | (simp [*, errW_none, errW_some] <;> rfl), by repeat (first | (with_reducible first | exact HB.out | apply below_alloc | apply pw_below_drewN | apply below_drew1) | exact HB.out)⟩
          · rw [if_neg c8] at H
            exact absurd H (by simp)
        · rw [if_neg c7] at H
          have c7b0 : (x4_1.toList == ([] : List UInt8)) = false := beq_eq_false_iff_ne.mpr c7
          have c7b1 : (x4_1.toList != ([] : List UInt8)) = true := bne_iff_ne.mpr c7
          obtain ⟨y113, hy113⟩ : ∃ y_ : List Int, y_ = (([(wrap64 (48 + (wrap64 (-(Int.tmod a0 10))))) % 256] : List Int)) := ⟨_, rfl⟩
          replace H : (if x4_1.size + (strOfNums y113).size ≤ 9223372036854775807 then (some (x4_1 ++ (strOfNums y113))) else (none)) = some r := by first | (rw [hy113]; with_reducible exact H) | (have H2_ := (Option.bind_some _ _).symm.trans H; rw [hy113]; with_reducible exact H2_) | (have H2_ := (Option.bind_some _ _).symm.trans H; with_reducible exact H2_) | with_reducible exact H | (rw [hy113]; exact H) | exact H
          have Ny113 := Aside0.mk hy113
          clear hy113
          by_cases c12 : x4_1.size + (strOfNums y113).size ≤ 9223372036854775807
          · rw [if_pos c12] at H
            have c12b0 := eq_true c12
            have c12b1 : decide (x4_1.size + (strOfNums y113).size ≤ 9223372036854775807) = true := decide_eq_true c12
            try have c12b2 : (9223372036854775807 < x4_1.size + (strOfNums y113).size) = False := eq_false (Nat.not_lt.2 c12)
            try (have c12s := c12; simp [] at c12s)
            obtain rfl := Option.some.inj H
            go_wp2_with (first | ((with_reducible refine gate_dst (N := 23) rfl ?_); refine Kd.R_lit (Kd.int .u8) _ 5 ?hg (N := 23) ?hd (xs := ([(wrap64 (48 + (wrap64 (-(Int.tmod a0 10))))) % 256] : List Int)) (inner := [.int .u8 ((wrap64 (48 + (wrap64 (-(Int.tmod a0 10))))) % 256)]) (ok := fun _ => True) (okp := fun _ => True) ?hr ?hp (fun _ hk => hk) trivial (Below.refl _ _) (Nat.le_refl _) (by simp) ?_; (case hd => rfl); (case hg => rfl); (case hr => first | (go_simp; done) | (go_simp; rfl)); (case hp => exact (Reps.one (show Kd.M (Kd.int .u8) _ _ _ ((wrap64 (48 + (wrap64 (-(Int.tmod a0 10))))) % 256) [.int .u8 ((wrap64 (48 + (wrap64 (-(Int.tmod a0 10))))) % 256)] from rfl) (Reps.none _ _))); intro v114 w13 ho14 hb hg_ hnew_; clear hg_ hnew_; (first | rw [← Ny113.out] at ho14 | (simp only [Int.reduceToNat] at ho14; rw [← Ny113.out] at ho14)); have n0_ := Aside0.mk (Kd.R_lower ho14 (below_size (by repeat (first | (with_reducible first | exact HB.out | apply below_alloc | apply pw_below_drewN | apply below_drew1) | exact HB.out)))); have n1_ := Aside0.mk (below_step (by repeat (first | (with_reducible first | exact HB.out | apply below_alloc | apply pw_below_drewN | apply below_drew1) | exact HB.out)) hb); clear HB; have HO115 := n0_; have HB := n1_; clear n0_ n1_; clear hb ho14; have hcv15 := own_string (P := Tryz.prog) Tryz.underlying59 Tryz.underlying5 Tryz.underlying9 (Kd.own_of_R HO115.out)))
            go_ret
            exact ⟨by first | rfl | exact isEmpty_bne_ _ | (simp [errW_none, errW_some] <;> rfl) | (simp [*, errW_none, errW_some] <;> rfl), by repeat (first | (with_reducible first | exact HB.out | apply below_alloc | apply pw_below_drewN | apply below_drew1) | exact HB.out)⟩
          · rw [if_neg c12] at H
            exact absurd H (by simp)
      · rw [if_neg c6] at H
        have c6b0 : decide (a0 < 0) = false := decide_eq_false c6
        clear c6
        obtain ⟨y116, hy116⟩ : ∃ y_ : List Int, y_ = (([(wrap64 (48 + (Int.tmod a0 10))) % 256] : List Int)) := ⟨_, rfl⟩
        replace H : (if x4_1.size + (strOfNums y116).size ≤ 9223372036854775807 then (some (x4_1 ++ (strOfNums y116))) else (none)) = some r := by first | (rw [hy116]; with_reducible exact H) | (have H2_ := (Option.bind_some _ _).symm.trans H; rw [hy116]; with_reducible exact H2_) | (have H2_ := (Option.bind_some _ _).symm.trans H; with_reducible exact H2_) | with_reducible exact H | (rw [hy116]; exact H) | exact H
        have Ny116 := Aside0.mk hy116
        clear hy116
        by_cases c16 : x4_1.size + (strOfNums y116).size ≤ 9223372036854775807
        · rw [if_pos c16] at H
          have c16b0 := eq_true c16
          have c16b1 : decide (x4_1.size + (strOfNums y116).size ≤ 9223372036854775807) = true := decide_eq_true c16
          try have c16b2 : (9223372036854775807 < x4_1.size + (strOfNums y116).size) = False := eq_false (Nat.not_lt.2 c16)
          try (have c16s := c16; simp [] at c16s)
          obtain rfl := Option.some.inj H
          go_wp2_with (first | ((with_reducible refine gate_dst (N := 23) rfl ?_); refine Kd.R_lit (Kd.int .u8) _ 5 ?hg (N := 23) ?hd (xs := ([(wrap64 (48 + (Int.tmod a0 10))) % 256] : List Int)) (inner := [.int .u8 ((wrap64 (48 + (Int.tmod a0 10))) % 256)]) (ok := fun _ => True) (okp := fun _ => True) ?hr ?hp (fun _ hk => hk) trivial (Below.refl _ _) (Nat.le_refl _) (by simp) ?_; (case hd => rfl); (case hg => rfl); (case hr => first | (go_simp; done) | (go_simp; rfl)); (case hp => exact (Reps.one (show Kd.M (Kd.int .u8) _ _ _ ((wrap64 (48 + (Int.tmod a0 10))) % 256) [.int .u8 ((wrap64 (48 + (Int.tmod a0 10))) % 256)] from rfl) (Reps.none _ _))); intro v117 w17 ho18 hb hg_ hnew_; clear hg_ hnew_; (first | rw [← Ny116.out] at ho18 | (simp only [Int.reduceToNat] at ho18; rw [← Ny116.out] at ho18)); have n0_ := Aside0.mk (Kd.R_lower ho18 (below_size (by repeat (first | (with_reducible first | exact HB.out | apply below_alloc | apply pw_below_drewN | apply below_drew1) | exact HB.out)))); have n1_ := Aside0.mk (below_step (by repeat (first | (with_reducible first | exact HB.out | apply below_alloc | apply pw_below_drewN | apply below_drew1) | exact HB.out)) hb); clear HB; have HO118 := n0_; have HB := n1_; clear n0_ n1_; clear hb ho18; have hcv19 := own_string (P := Tryz.prog) Tryz.underlying59 Tryz.underlying5 Tryz.underlying9 (Kd.own_of_R HO118.out)))
          go_ret
          exact ⟨by first | rfl | exact isEmpty_bne_ _ | (simp [errW_none, errW_some] <;> rfl) | (simp [*, errW_none, errW_some] <;> rfl), by repeat (first | (with_reducible first | exact HB.out | apply below_alloc | apply pw_below_drewN | apply below_drew1) | exact HB.out)⟩
        · rw [if_neg c16] at H
          exact absurd H (by simp)

/-! ### pumiceref14_num: function 71 -/
def pumiceref14_num.f (k : Nat) (a0 : Int) : Option (ByteArray) := (pumiceref04_Decimal.f k a0).bind fun t119 => (some t119)
theorem pumiceref14_num.mono : ∀ a0 k, LeO (pumiceref14_num.f k a0) (pumiceref14_num.f (k + 1) a0) := by
  intro a0 k
  unfold pumiceref14_num.f
  repeat' first
      | (with_reducible exact pumiceref04_Decimal.mono _ _)
      | (with_reducible exact LeO.refl _)
      | (with_reducible exact LeO.none _)
      | (with_reducible refine LeO.ite ?_ ?_)
      | (with_reducible refine LeO.bind ?_ (fun _ => ?_))
      | exact pumiceref04_Decimal.mono _ _
      | exact LeO.none _
      | refine LeO.ite ?_ ?_
      | refine LeO.bind ?_ (fun _ => ?_)
set_option maxHeartbeats 8000000 in
set_option maxRecDepth 100000 in
theorem pumiceref14_num.calls (k : Nat) (a0 : Int) (r : ByteArray) (w : World) (h : pumiceref14_num.f k a0 = some r) :
    Calls Tryz.prog 71 #[.int .i64 a0] w fun e w' => e = .returned (.string r) ∧ Below w.heap.size w w' := by
  have HB := Aside0.mk (Below.refl w.heap.size w)
  have H : ((pumiceref04_Decimal.f k a0).bind fun t119 => (some t119)) = some r := h
  clear h
  replace H := Option.bind_eq_some_iff.mp H
  obtain ⟨t119, A20, H⟩ := H
  replace H : (some t119) = some r := H
  have A2 := Aside0.mk A20
  clear A20
  obtain rfl := Option.some.inj H
  go_enter Tryz.func71, Tryz.ntmps71
  go_wp2_with (first | ((with_reducible refine gate_callee (f := 91) rfl ?_); refine goesL_ (some 4) rfl rfl Tryz.func91 (by kernel_rfl) rfl #[.int .i64 a0] rfl (by (try simp only [List.map_toArray, List.map_cons, List.map_nil]); first | done | rfl | (simp only [List.length_drop, List.length_take]; rfl)) ?_; (with_reducible refine (pumiceref04_Decimal.calls k a0 t119 _ A2.out).mono ?_); rintro e w3 ⟨rfl, hb⟩; refine ⟨_, rfl, ?_⟩; have n0_ := Aside0.mk (below_step (by repeat (first | (with_reducible first | exact HB.out | apply below_alloc | apply pw_below_drewN | apply below_drew1) | exact HB.out)) hb); clear HB; have HB := n0_; clear n0_; (try clear hb); (try clear hb2); (try clear hk); (try clear hi)))
  go_ret
  exact ⟨by first | rfl | exact isEmpty_bne_ _ | (simp [errW_none, errW_some] <;> rfl) | (simp [*, errW_none, errW_some] <;> rfl), by repeat (first | (with_reducible first | exact HB.out | apply below_alloc | apply pw_below_drewN | apply below_drew1) | exact HB.out)⟩

end Go.Proofs.YtlpnggaeepjjfaaGreatDoor.Z

namespace Go.Proofs.YtlpnggaeepjjfaaGreatDoor.Bo
open Go.RowKit Go.Sort Go.Proofs.YtlpnggaeepjjfaaGreatDoorW.PrintWords Go.Proofs.YtlpnggaeepjjfaaGreatDoorW.PrintLast
set_option linter.unusedVariables false
set_option linter.unusedSimpArgs false
theorem cell_at {w w' : World} {B : Nat} (hb : Below B w w') {a : Addr} {v : Value} (h : w.cell? a = some v) (hB : a.block < B) : w'.cell? a = some v := by
  have hk := hb.block a.block hB
  simp only [World.cell?, hk] at h ⊢
  exact h
theorem pow10_global : Tryz.prog.globalNamed "internal/strconv.uint64pow10" = some 0 := by kernel_rfl
/-- What the program's variables hold. -/
structure Lw (w : World) : Prop where
  tab : Lib.TabIs Tryz.prog w "internal/strconv.uint64pow10" .u64 Lib.pow10Tab
  ml : ∃ m : Int, w.cell? ⟨1, 0, none⟩ = some (.int .i64 m)
  es : ∃ (t : TypeId) (p : Value), w.cell? ⟨2, 0, none⟩ = some (.iface t p)
  er : ∃ (t : TypeId) (p : Value), w.cell? ⟨3, 0, none⟩ = some (.iface t p)
theorem Lw.lt {w : World} (h : Lw w) : 4 ≤ w.heap.size := by
  obtain ⟨t, p, h⟩ := h.er
  exact World.block_lt_of_cell? w ⟨3, 0, none⟩ h
theorem tab_keep {w w' : World} {zs : List Int} (h : Lib.TabIs Tryz.prog w "internal/strconv.uint64pow10" .u64 zs) (hb : w'.heap[0]? = w.heap[0]?) : Lib.TabIs Tryz.prog w' "internal/strconv.uint64pow10" .u64 zs := by
  unfold Lib.TabIs at h ⊢
  unfold World.var? at h ⊢
  rw [pow10_global, Option.bind_some] at h ⊢
  rw [hb]
  exact h
theorem Lw.keep {w w' : World} (h : Lw w) (hb : ∀ k, k < 4 → w'.heap[k]? = w.heap[k]?) : Lw w' := by
  have hc : ∀ (k : Nat) (v : Value), k < 4 → w.cell? ⟨k, 0, none⟩ = some v → w'.cell? ⟨k, 0, none⟩ = some v := by
    intro k v hk hv
    simp only [World.cell?, hb k hk] at hv ⊢
    exact hv
  obtain ⟨m, hm⟩ := h.ml
  obtain ⟨t, p, hs⟩ := h.es
  obtain ⟨t2, p2, hr⟩ := h.er
  exact ⟨tab_keep h.tab (hb 0 (by omega)), ⟨m, hc 1 _ (by omega) hm⟩, ⟨t, p, hc 2 _ (by omega) hs⟩, ⟨t2, p2, hc 3 _ (by omega) hr⟩⟩
theorem Lw.below {w w' : World} {B : Nat} (h : Lw w) (hb : Below B w w') (hB : 4 ≤ B) : Lw w' := h.keep fun k hk => hb.block k (by omega)
theorem Lw.on {w w' : World} (h : Lw w) (hb : Below w.heap.size w w') : Lw w' := h.below hb h.lt
theorem Lw.gb {w w' : World} {q : Nat} (h : Lw w) (hb : w.grownBy w' (some q)) (hq : 4 ≤ q) : Lw w' := h.keep fun k hk => hb.block k (by have := h.lt; omega) (fun e => by cases e; omega)
/-- The builder at sb holds these bytes; what stood below it, and all else that is no row of bytes, stands as_ in w. -/
def TB (sb : Nat) (acc : List UInt8) (w w' : World) : Prop := Lib.IsBuilderF 61 5 sb sb (Lib.byteCells acc) w' ∧ Below sb w w' ∧ Lib.OthersKept 5 (some sb) w w'
section
variable {sb : Nat} {acc : List UInt8} {w0 w w' : World}
theorem TB.step (h : TB sb acc w0 w) {acc' : List UInt8} (h' : TB sb acc' w w') : TB sb acc' w0 w' := ⟨h'.1, h.2.1.trans h'.2.1, h.2.2.trans h'.2.2⟩
theorem TB.lt (h : TB sb acc w0 w) : sb < w.heap.size := h.1.elim (fun h => h.lt) (fun h => h.lt)
theorem ownAt_kept {p : Value} {bs : List Value} (h : Lib.BuilderAtF 61 5 sb sb p bs w) (hg : w.grownBy w' none) : Lib.BuilderAtF 61 5 sb sb p bs w' := by
  have hl := h.lt
  obtain ⟨hB, v, hb, hown, hne⟩ := h
  refine ⟨hB, v, (hg.block sb hl (by simp)).trans hb, hown.kept hg ?_, hne⟩
  cases hv : v.ownBlock with
  | none => exact .inl rfl
  | some g => exact .inr (by simp)
theorem TB.quiet (h : TB sb acc w0 w) (hg : w.grownBy w' none) : TB sb acc w0 w' := by
  have hl := h.lt
  refine ⟨h.1.elim (fun x => .inl (ownAt_kept x hg)) (fun x => .inr (ownAt_kept x hg)), ?_, ?_⟩
  · exact h.2.1.grown hg (Nat.le_of_lt hl) (by simp)
  · exact h.2.2.grown hg (by simp)
theorem TB.heap (h : TB sb acc w0 w) {k : Nat} {cs : Array Value} {t : TypeId} {fz : Nat × Nat} (hk : w0.heap[k]? = some (.cells cs t fz)) (hn : k ≠ sb) (ht : t ≠ 5) : w.heap[k]? = some (.cells cs t fz) :=
  h.2.2 k _ hk (by simpa using hn) (by intro c fz' e; cases e; exact ht rfl)
end
theorem gb_drewN (w : World) : ∀ n, w.grownBy (w.drewN n) none
  | 0 => gb_refl _ _
  | n + 1 => gb_trans (gb_drewN w n) (gb_drew (w.drewN n) none)
theorem gb_grow (w : World) (os : Array Obj) : w.grownBy (grow w os) none :=
  ⟨rfl, rfl, rfl, by show _ ≤ (w.heap ++ os).size; rw [Array.size_append]; omega, fun j hj _ => by show (w.heap ++ os)[j]? = _; rw [Array.getElem?_append_left hj]⟩
theorem below_none {w w' : World} (h : w.grownBy w' none) : Below w.heap.size w w' := (Below.refl _ _).grown h (Nat.le_refl _) (by simp)
/-- strconv.Itoa. -/
theorem itoa_calls (n : Int) (h0 : 0 ≤ n) (h1 : n ≤ 9223372036854775807) (w : World) (h : Lw w) :
    Calls Tryz.prog 33 #[.int .i64 n] w fun e w' => e = .returned (.string ⟨(Lib.itoa n).toArray⟩) ∧ w.grownBy w' none :=
  (Any.strconv_Itoa Tryz.laysItoa n (by omega) h1 w h.tab).mono fun e w' ⟨he, k, os, hw⟩ => ⟨he, hw ▸ gb_trans (gb_drewN w k) (gb_grow _ os)⟩
theorem byteCells_ext (acc : List UInt8) (c : UInt8) : Lib.byteCells acc ++ [.int .u8 (c.toNat : Int)] = Lib.byteCells (acc ++ [c]) := by simp [Lib.byteCells]
theorem wb_calls {sb : Nat} {acc : List UInt8} {w0 w : World} (h : TB sb acc w0 w) (c : UInt8) (z : Int) (hz : z = (c.toNat : Int)) (hlen : acc.length + 1 ≤ 140737488355328) :
    Calls Tryz.prog 31 #[.pointer (some ⟨sb, 0, none⟩), .int .u8 z] w fun e w' => e = .returned .nilIface ∧ TB sb (acc ++ [c]) w0 w' := by
  subst hz
  refine (Any.Builder_WriteByte_k Tryz.laysWB Tryz.laysWB_extra sb sb (Lib.byteCells acc) (c.toNat : Int) w h.1 (by rw [Lib.byteCells_length]; exact hlen) (Nat.le_of_lt h.lt)).mono ?_
  rintro e w' ⟨he, h1, h2, h3⟩
  rw [byteCells_ext] at h1
  exact ⟨he, h.step ⟨.inr h1, h2, h3⟩⟩
theorem ws_calls {sb : Nat} {acc : List UInt8} {w0 w : World} (h : TB sb acc w0 w) (s : List UInt8) (hlen : acc.length + s.length ≤ 140737488355328) :
    Calls Tryz.prog 32 #[.pointer (some ⟨sb, 0, none⟩), .string ⟨s.toArray⟩] w fun e w' => (∃ v, e = .returned v) ∧ TB sb (acc ++ s) w0 w' := by
  have hs : (⟨s.toArray⟩ : ByteArray).size = s.length := by show s.toArray.size = _; rw [List.size_toArray]
  refine (Any.Builder_WriteString_k Tryz.laysWS Tryz.laysWS_extra sb sb (Lib.byteCells acc) ⟨s.toArray⟩ w h.1 (by rw [Lib.byteCells_length, hs]; exact hlen) (Nat.le_of_lt h.lt)).mono ?_
  rintro e w' ⟨he, h1, h2, h3⟩
  rw [Lib.strCells_eq, ← Lib.byteCells_append] at h1
  exact ⟨⟨_, he⟩, h.step ⟨.inr h1, h2, h3⟩⟩
theorem str_calls {sb : Nat} {acc : List UInt8} {w0 w : World} (h : TB sb acc w0 w) :
    Calls Tryz.prog 34 #[.pointer (some ⟨sb, 0, none⟩)] w fun e w' => e = .returned (.string ⟨acc.toArray⟩) ∧ TB sb acc w0 w' := by
  refine (Any.Builder_String_any_k Tryz.laysStr Tryz.laysStr_extra sb sb acc w h.1 (Nat.le_of_lt h.lt)).mono ?_
  rintro e w' ⟨he, h1, h2, h3⟩
  exact ⟨he, h.step ⟨h1, h2, h3⟩⟩
/-- The numbers below k, a blank between. -/
def spK (xs : List Int) : Nat → List UInt8
  | 0 => []
  | k + 1 => (spK xs k ++ if k = 0 then [] else [32]) ++ Lib.itoa (xs.getD k 0)
theorem dec_len : ∀ (k u : Nat), u < 10 ^ (k + 1) → (Lib.decDigits u).length ≤ k + 1 := by
  intro k
  induction k with
  | zero => intro u hu; rw [Lib.decDigits, dif_pos (by omega)]; simp
  | succ k ih =>
    intro u hu
    rw [Lib.decDigits]
    split
    · simp
    · have := ih (u / 10) (by rw [Nat.pow_succ] at hu; omega)
      rw [List.length_append]
      simp
      omega
theorem itoa_len (n : Int) (h0 : 0 ≤ n) (h1 : n ≤ 9223372036854775807) : (Lib.itoa n).length ≤ 19 := by
  unfold Lib.itoa
  rw [if_neg (by omega)]
  exact dec_len 18 _ (by omega)
theorem sp_len (xs : List Int) (h : ∀ x ∈ xs, 0 ≤ x ∧ x ≤ 9223372036854775807) (k : Nat) (hk : k ≤ xs.length) : (spK xs k).length ≤ 20 * k := by
  induction k with
  | zero => simp [spK]
  | succ k ih =>
    have hx : xs.getD k 0 ∈ xs := by rw [List.getD_eq_getElem?_getD, List.getElem?_eq_getElem (by omega)]; exact List.getElem_mem _
    have h1 := itoa_len _ (h _ hx).1 (h _ hx).2
    have := ih (by omega)
    rw [spK, List.length_append, List.length_append]
    split <;> simp only [List.length_nil, List.length_cons] <;> omega
end Go.Proofs.YtlpnggaeepjjfaaGreatDoor.Bo

namespace Go.Proofs.YtlpnggaeepjjfaaGreatDoor.Cut
open Go.RowKit Go.Shelf Go.Proofs.YtlpnggaeepjjfaaGreatDoorW.PrintWords Go.Proofs.YtlpnggaeepjjfaaGreatDoor.Bo
set_option linter.unusedVariables false
set_option linter.unusedSimpArgs false
/-- What the parts spell, if all are numbers. -/
def nums : List ByteArray → Option (List Int)
  | [] => some []
  | x :: r => match Lib.atoiAll x.data.toList with
    | .ok v => (nums r).map (v :: ·)
    | _ => none
theorem nums_snoc : ∀ (pre : List ByteArray) (xs : List Int) (x : ByteArray) (v : Int), nums pre = some xs → Lib.atoiAll x.data.toList = .ok v → nums (pre ++ [x]) = some (xs ++ [v])
  | [], xs, x, v, h, hx => by cases h; simp [nums, hx]
  | y :: r, xs, x, v, h, hx => by
    unfold nums at h
    rw [List.cons_append]
    unfold nums
    split at h
    · rename_i u hu
      obtain ⟨ys, hy, rfl⟩ := Option.map_eq_some_iff.1 h
      rw [nums_snoc r ys x v hy hx]
      rfl
    · cases h
theorem nums_bad : ∀ (pre : List ByteArray) (x : ByteArray) (q : List ByteArray), (∀ v, Lib.atoiAll x.data.toList ≠ .ok v) → nums (pre ++ x :: q) = none
  | [], x, q, hx => by
    show nums (x :: q) = none
    unfold nums
    split
    · rename_i v hv; exact absurd hv (hx v)
    · rfl
  | y :: r, x, q, hx => by
    show nums (y :: (r ++ x :: q)) = none
    unfold nums
    rw [nums_bad r x q hx]
    split <;> rfl
theorem nums_len : ∀ (pre : List ByteArray) (xs : List Int), nums pre = some xs → xs.length = pre.length
  | [], xs, h => by cases h; rfl
  | y :: r, xs, h => by
    unfold nums at h
    split at h
    · obtain ⟨ys, hy, rfl⟩ := Option.map_eq_some_iff.1 h
      simp [nums_len r ys hy]
    · cases h
theorem cutL_len : ∀ l : List UInt8, (cutL l).length ≤ l.length + 1
  | [] => by simp [cutL]
  | c :: r => by
    have := cutL_len r
    unfold cutL
    split
    · simp; omega
    · split
      · simp
      · rename_i h t e; rw [e] at this; simp at this ⊢; omega
theorem cutL_mem : ∀ l : List UInt8, ∀ x ∈ cutL l, x.length ≤ l.length
  | [], x, h => by simp [cutL] at h; simp [h]
  | c :: r, x, h => by
    have := cutL_mem r
    unfold cutL at h
    split at h
    · rcases List.mem_cons.1 h with rfl | h
      · simp
      · have := this x h; simp; omega
    · split at h
      · rw [List.mem_singleton] at h; subst h; simp
      · rename_i hd t e
        rcases List.mem_cons.1 h with rfl | h
        · have := this hd (by rw [e]; exact List.mem_cons_self ..); simp; omega
        · have := this x (by rw [e]; exact List.mem_cons_of_mem _ h); simp; omega
theorem pieces_len (s : ByteArray) : (pieces s).length ≤ s.size + 1 := by
  unfold pieces
  rw [List.length_map]
  have := cutL_len s.data.toList
  rwa [Array.length_toList] at this
theorem pieces_mem {s x : ByteArray} (h : x ∈ pieces s) : x.size ≤ s.size := by
  unfold pieces at h
  obtain ⟨l, hl, rfl⟩ := List.mem_map.1 h
  have := cutL_mem _ _ hl
  rw [Array.length_toList] at this
  show (mkB l).data.size ≤ _
  simpa [mkB] using this
def numR (s : ByteArray) (want : Int) : List Int × Bool := match nums (pieces s) with
  | some xs => (xs, decide ((xs.length : Int) = want))
  | none => ([], false)
def NumPost (s : ByteArray) (want : Int) (w : World) (e : Ending) (w' : World) : Prop :=
  ∃ v, e = .returned (.tuple #[v, .bool (numR s want).2]) ∧ Kd.R (Kd.int .i64) 3 w' w.heap.size (fun _ => True) v (numR s want).1 ∧ Below w.heap.size w w'
/-- Between two rounds. -/
structure St (w0 W : World) (r B : Nat) (v : Value) (l : List Int) : Prop where
  zc : W.heap[r]? = some (.cells #[.slice none 0 0] 33 (0, 0))
  ec : W.heap[r + 1]? = some (.cells #[.bool false] 4 (0, 0))
  pc : W.heap[r + 2]? = some (.cells #[v] 33 (0, 0))
  row : W.ownsRow B 3 1 v l.length (encs (Value.int .i64) l)
  below : Below w0.heap.size w0 W
  size : B ≤ W.heap.size
structure Sx (w0 W : World) (r : Nat) : Prop where
  zc : W.heap[r]? = some (.cells #[.slice none 0 0] 33 (0, 0))
  ec : W.heap[r + 1]? = some (.cells #[.bool false] 4 (0, 0))
  below : Below w0.heap.size w0 W
theorem row_kept {W W' : World} {row : Option Nat} {base : Nat} {e : TypeId} {size : Nat} {v : Value} {k : Nat} {xs : List Value} (h : W.ownsRow base e size v k xs) (hg : W.grownBy W' row)
    (hr : ∀ q, row = some q → ∃ o : Obj, W.heap[q]? = some o ∧ o.isCells = false) : W'.ownsRow base e size v k xs := by
  refine h.kept hg ?_
  rcases h.2 with ⟨rfl, _⟩ | ⟨g, cap, cur, rfl, _, hc, _⟩
  · exact .inl rfl
  · right
    intro e
    obtain ⟨o, ho, hn⟩ := hr g e.symm
    rw [hc] at ho
    cases ho
    cases hn
theorem row_block {W : World} {base : Nat} {e : TypeId} {size : Nat} {v : Value} {k : Nat} {xs : List Value} (h : W.ownsRow base e size v k xs) {q : Nat} (hq : v.ownBlock = some q) : base ≤ q ∧ ∃ cur, W.heap[q]? = some (.cells cur e (0, 0)) := by
  rcases h.2 with ⟨rfl, _⟩ | ⟨g, cap, cur, rfl, hb, hc, _⟩
  · cases hq
  · cases hq
    exact ⟨hb, cur, hc⟩
theorem row_base {W : World} {base base' : Nat} {e : TypeId} {size : Nat} {v : Value} {k : Nat} {xs : List Value} (h : W.ownsRow base e size v k xs) (hb : base' ≤ base) : W.ownsRow base' e size v k xs := by
  obtain ⟨h1, h2⟩ := h
  refine ⟨h1, h2.imp id ?_⟩
  rintro ⟨g, cap, cur, h3, h4, r⟩
  exact ⟨g, cap, cur, h3, Nat.le_trans hb h4, r⟩
section
variable {w0 W W' w1 : World} {r B : Nat} {v v1 : Value} {l : List Int} {x : Int}
theorem heap_kept {k : Nat} {cs : Array Value} {t : TypeId} {q : Nat × Nat} {row : Option Nat} (h : W.heap[k]? = some (.cells cs t q)) (hg : W.grownBy W' row) (hr : ∀ q, row = some q → ∃ o : Obj, W.heap[q]? = some o ∧ o.isCells = false) : W'.heap[k]? = some (.cells cs t q) :=
  (grownBy_keeps_cells hg hr h rfl).trans h
theorem St.abides (S : St w0 W r B v l) (hB : w0.heap.size ≤ B) {row : Option Nat} (hg : W.grownBy W' row) (hr : ∀ q, row = some q → B ≤ q ∧ ∃ o : Obj, W.heap[q]? = some o ∧ o.isCells = false) : St w0 W' r B v l :=
  ⟨heap_kept S.zc hg (fun q e => (hr q e).2), heap_kept S.ec hg (fun q e => (hr q e).2), heap_kept S.pc hg (fun q e => (hr q e).2), row_kept S.row hg (fun q e => (hr q e).2), S.below.grown hg S.below.size (fun k e => Nat.le_trans hB (hr k e).1), Nat.le_trans S.size hg.size⟩
theorem St.quiet (S : St w0 W r B v l) (hg : W.grownBy W' none) : St w0 W' r B v l :=
  ⟨heap_kept S.zc hg nofun, heap_kept S.ec hg nofun, heap_kept S.pc hg nofun, row_kept S.row hg nofun, S.below.grown hg S.below.size nofun, Nat.le_trans S.size hg.size⟩
theorem Sx.abides (S : Sx w0 W r) (hB : w0.heap.size ≤ B) {row : Option Nat} (hg : W.grownBy W' row) (hr : ∀ q, row = some q → B ≤ q ∧ ∃ o : Obj, W.heap[q]? = some o ∧ o.isCells = false) : Sx w0 W' r :=
  ⟨heap_kept S.zc hg (fun q e => (hr q e).2), heap_kept S.ec hg (fun q e => (hr q e).2), S.below.grown hg S.below.size (fun k e => Nat.le_trans hB (hr k e).1)⟩
theorem St.cell (S : St w0 W r B v l) (hr : w0.heap.size = r) (hB : r + 3 < B) (u : Value) : St w0 (W.setCell ⟨r + 3, 0, none⟩ u) r B v l :=
  ⟨heap_set_ne (by omega) S.zc, heap_set_ne (by omega) S.ec, heap_set_ne (by omega) S.pc, ownsRow_setCell_below S.row hB u, S.below.setCell (by show w0.heap.size ≤ r + 3; omega) u, by rw [World.size_setCell]; exact S.size⟩
theorem Sx.cell (S : Sx w0 W r) (hr : w0.heap.size = r) (u : Value) : Sx w0 (W.setCell ⟨r + 3, 0, none⟩ u) r :=
  ⟨heap_set_ne (by omega) S.zc, heap_set_ne (by omega) S.ec, S.below.setCell (by show w0.heap.size ≤ r + 3; omega) u⟩
theorem St.slice (S : St w0 W r B v l) : ∃ A c, v = .slice A l.length c ∧ l.length ≤ c := by
  rcases S.row.2 with ⟨rfl, h⟩ | ⟨g, cap, cur, rfl, hb, hc, hle, _⟩
  · exact ⟨none, 0, by rw [h], by omega⟩
  · exact ⟨_, cap, rfl, hle⟩
theorem lt_heap {k : Nat} {o : Obj} (h : W.heap[k]? = some o) : k < W.heap.size := (Array.getElem?_eq_some_iff.1 h).1
theorem cell_grown {k B' n : Nat} {cs : Array Value} {t : TypeId} {q : Nat × Nat} {o : Obj} {ys : List Value} {A : Option Addr} {m c : Nat} (h : W.heap[k]? = some (.cells cs t q)) (hown : w1.ownsRow B' 3 1 v1 n ys) (hg : (W.alloc o).grownBy w1 (Value.slice A m c).ownBlock) (hne : ∀ g, (Value.slice A m c).ownBlock = some g → k ≠ g) : w1.heap[k]? = some (.cells cs t q) :=
  (hg.block k (by rw [World.size_alloc]; have := lt_heap h; omega) (fun e => hne k e.symm rfl)).trans ((Below.heap_alloc W o k (lt_heap h)).trans h)
/-- One number more. -/
theorem St.step (S : St w0 W r B v l) (hr : w0.heap.size = r) (hB : r + 5 < B) {o : Obj} (hown : w1.ownsRow B 3 1 v1 (l.length + 1) (encs (Value.int .i64) l ++ [.int .i64 x])) (hg : (W.alloc o).grownBy w1 v.ownBlock) :
    KeepsFrom B W (w1.setCell ⟨r + 2, 0, none⟩ v1) ∧ Kept [r + 4, r + 3, r + 5] W (w1.setCell ⟨r + 2, 0, none⟩ v1) ∧ St w0 (w1.setCell ⟨r + 2, 0, none⟩ v1) r B v1 (l ++ [x]) := by
  have hW := S.size
  have hown0 : (W.alloc o).ownsRow B 3 1 v l.length (encs (Value.int .i64) l) := S.row.kept (World.grownBy_alloc W o none) (by
    rcases S.row.2 with ⟨rfl, _⟩ | ⟨g, cap, cur, rfl, _⟩
    · exact .inl rfl
    · exact .inr (by simp [Value.ownBlock]))
  have hne : ∀ k, k < B → some k ≠ v.ownBlock := fun k hk e => by have := (row_block hown0 e.symm).1; omega
  have hk : ∀ k, k < B → w1.heap[k]? = W.heap[k]? := fun k hkB => (hg.block k (by rw [World.size_alloc]; omega) (hne k hkB)).trans (Below.heap_alloc W o k (by omega))
  have hp : w1.heap[r + 2]? = some (.cells #[v] 33 (0, 0)) := (hk _ (by omega)).trans S.pc
  have hset : (w1.setCell ⟨r + 2, 0, none⟩ v1).heap[r + 2]? = some (.cells #[v1] 33 (0, 0)) := blk_put hp 0 v1 rfl
  refine ⟨?_, ?_, ?_, ?_, hset, ?_, ?_, ?_⟩
  · refine (((KeepsOthers.alloc W o).trans (KeepsOthers.of_grownBy hg fun j o' ej hj => ?_)).trans (KeepsOthers.setCell _ _ _)).from B
    obtain ⟨_, cur, hc⟩ := row_block hown0 ej
    rw [hc] at hj
    cases hj
    rfl
  · intro b hb
    simp only [List.mem_cons, List.not_mem_nil, or_false] at hb
    have h2 : b ≠ r + 2 ∧ b < B := by omega
    exact (Below.heap_setCell _ _ _ _ h2.1).trans (hk b h2.2)
  · exact heap_set_ne (by omega) ((hk _ (by omega)).trans S.zc)
  · exact heap_set_ne (by omega) ((hk _ (by omega)).trans S.ec)
  · have := ownsRow_setCell_below hown (a := ⟨r + 2, 0, none⟩) (by show r + 2 < B; omega) v1
    rw [List.length_append]
    have e2 : encs (Value.int .i64) (l ++ [x]) = encs (Value.int .i64) l ++ [.int .i64 x] := by simp [encs]
    rw [e2]
    exact this
  · refine Below.setCell (Below.grown (S.below.alloc S.below.size o) hg (by rw [World.size_alloc]; have := S.below.size; omega) (fun k e => ?_)) (by show w0.heap.size ≤ r + 2; omega) v1
    have := (row_block hown0 e).1
    omega
  · have := hg.size
    rw [World.size_alloc] at this
    rw [World.size_setCell]
    omega
end
theorem gb_of_below {w w' : World} (h : Below w.heap.size w w') : w.grownBy w' none := ⟨h.os, h.tape, h.output, h.size, fun j hj _ => h.block j hj⟩
theorem keeps_of_below {B : Nat} {w w' : World} (h : Below w.heap.size w w') : KeepsFrom B w w' := (KeepsOthers.of_grownBy (gb_of_below h) nofun).from B
theorem kept_of_below {bs : List Nat} {w w' : World} (h : Below w.heap.size w w') (hb : ∀ k ∈ bs, k < w.heap.size) : Kept bs w w' := fun k hk => h.block k (hb k hk)
theorem atoi_ok (x : ByteArray) (hx : x.size ≤ 8796093022208) (v : Int) (h : Lib.atoiAll x.data.toList = .ok v) (w : World) :
    Calls Tryz.prog 67 #[.string x] w fun e w' => e = .returned (.tuple #[.int .i64 v, .nilIface]) ∧ Below w.heap.size w w' := by
  refine (Any.strconv_Atoi_ok Tryz.laysAtoi x (by omega) v h w).mono ?_
  rintro e w' ⟨he, rfl | ⟨t, rfl⟩⟩
  · exact ⟨he, Below.refl _ _⟩
  · exact ⟨he, Lib.bytesWorld_below ..⟩
theorem atoi_bad (x : ByteArray) (hx : x.size ≤ 8796093022208) (h : ∀ v, Lib.atoiAll x.data.toList ≠ .ok v) (w : World) (hL : Lw w) :
    Calls Tryz.prog 67 #[.string x] w fun e w' => (∃ (u : Int) (t : TypeId) (p : Value), e = .returned (.tuple #[.int .i64 u, .iface t p])) ∧ Below w.heap.size w w' := by
  rcases ha : Lib.atoiAll x.data.toList with v | _ | _
  · exact absurd ha (h v)
  · obtain ⟨t, p, hs⟩ := hL.es
    refine (Any.strconv_Atoi_syntax Tryz.laysAtoi x (by omega) ha _ w hs (.inr ⟨t, p, rfl⟩)).mono ?_
    rintro e w' ⟨k, he, _, _, hb⟩
    exact ⟨⟨_, _, _, he⟩, hb⟩
  · obtain ⟨t, p, hs⟩ := hL.er
    refine (Any.strconv_Atoi_range Tryz.laysAtoi x (by omega) ha _ w hs (.inr ⟨t, p, rfl⟩)).mono ?_
    rintro e w' ⟨k, he, _, _, hb⟩
    exact ⟨⟨_, _, _, he⟩, hb⟩
set_option maxRecDepth 100000 in
set_option maxHeartbeats 4000000 in
theorem splitSeq_calls (path : ByteArray) (w : World) : Calls Tryz.prog 87 #[.string path, .string ⟨#[32]⟩, .int .i64 0] w fun e w' => e = .returned (.func (.func 105) #[] #[.pointer (some ⟨w.heap.size + 1, 0, none⟩), .pointer (some ⟨w.heap.size, 0, none⟩), .pointer (some ⟨w.heap.size + 1 + 1, 0, none⟩)]) ∧ w' = ((w.alloc (.cells #[.string path] 9)).alloc (.cells #[.string ⟨#[32]⟩] 9)).alloc (.cells #[.int .i64 0] 3) := by
  go_enter Tryz.func87, Tryz.ntmps87
  go_wp2
  go_ret
  exact ⟨by simp, rfl⟩
set_option maxRecDepth 100000 in
set_option maxHeartbeats 4000000 in
theorem seq_calls (path : ByteArray) (w : World) : Calls Tryz.prog 66 #[.string path, .string ⟨#[32]⟩] w fun e w' => e = .returned (.func (.func 105) #[] #[.pointer (some ⟨w.heap.size + 1, 0, none⟩), .pointer (some ⟨w.heap.size, 0, none⟩), .pointer (some ⟨w.heap.size + 1 + 1, 0, none⟩)]) ∧ w' = ((w.alloc (.cells #[.string path] 9)).alloc (.cells #[.string ⟨#[32]⟩] 9)).alloc (.cells #[.int .i64 0] 3) := by
  go_enter Tryz.func66, Tryz.ntmps66
  go_wp2_with (go_at_call 87; (with_reducible refine (splitSeq_calls path _).mono ?_); rintro e w' ⟨rfl, rfl⟩)
  go_ret
  exact ⟨rfl, rfl⟩
theorem start_st {w : World} {path : ByteArray} {r : Nat} (hr : w.heap.size = r) {W0 : World}
    (hW0 : W0 = (((((w.alloc (.cells #[.slice none 0 0] 33)).alloc (.cells #[.bool false] 4)).alloc (.cells #[.slice none 0 0] 33)).alloc (.cells #[.string path] 9)).alloc (.cells #[.string ⟨#[32]⟩] 9)).alloc (.cells #[.int .i64 0] 3)) :
    W0.heap.size = r + 6 ∧ W0.heap[r + 3]? = some (.cells #[.string path] 9 (0, 0)) ∧ W0.heap[r + 4]? = some (.cells #[.string ⟨#[32]⟩] 9 (0, 0)) ∧ W0.heap[r + 5]? = some (.cells #[.int .i64 0] 3 (0, 0)) ∧ St w W0 r (r + 6) (.slice none 0 0) [] := by
  have z0 := blk_new w (.cells #[.slice none 0 0] 33)
  rw [hr] at z0
  have z1 := blk_new (w.alloc (.cells #[.slice none 0 0] 33)) (.cells #[.bool false] 4)
  rw [World.size_alloc, hr] at z1
  have z2 := blk_new ((w.alloc (.cells #[.slice none 0 0] 33)).alloc (.cells #[.bool false] 4)) (.cells #[.slice none 0 0] 33)
  rw [World.size_alloc, World.size_alloc, hr] at z2
  obtain ⟨W3, hW3⟩ : ∃ W3, ((w.alloc (.cells #[.slice none 0 0] 33)).alloc (.cells #[.bool false] 4)).alloc (.cells #[.slice none 0 0] 33) = W3 := ⟨_, rfl⟩
  have y0 : W3.heap[r]? = some (.cells #[.slice none 0 0] 33 (0, 0)) := hW3 ▸ blk_alloc (blk_alloc z0 _) _
  have y1 : W3.heap[r + 1]? = some (.cells #[.bool false] 4 (0, 0)) := hW3 ▸ blk_alloc z1 _
  have y2 : W3.heap[r + 2]? = some (.cells #[.slice none 0 0] 33 (0, 0)) := hW3 ▸ z2
  have s3 : W3.heap.size = r + 3 := by rw [← hW3]; simp only [World.size_alloc]; omega
  have b3 : Below w.heap.size w W3 := by
    rw [← hW3]
    exact (((Below.refl _ w).alloc (Nat.le_refl _) _).alloc (by rw [World.size_alloc]; omega) _).alloc (by simp only [World.size_alloc]; omega) _
  rw [hW3] at hW0
  have q1 := blk_new W3 (.cells #[.string path] 9)
  rw [s3] at q1
  have q2 := blk_new (W3.alloc (.cells #[.string path] 9)) (.cells #[.string ⟨#[32]⟩] 9)
  rw [World.size_alloc, s3] at q2
  have q3 := blk_new ((W3.alloc (.cells #[.string path] 9)).alloc (.cells #[.string ⟨#[32]⟩] 9)) (.cells #[.int .i64 0] 3)
  rw [World.size_alloc, World.size_alloc, s3] at q3
  clear hW3 z0 z1 z2
  subst hW0
  refine ⟨by simp only [World.size_alloc]; omega, blk_alloc (blk_alloc q1 _) _, blk_alloc q2 _, q3, ?_, ?_, ?_, ?_, ?_, by simp only [World.size_alloc]; omega⟩
  · exact blk_alloc (blk_alloc (blk_alloc y0 _) _) _
  · exact blk_alloc (blk_alloc (blk_alloc y1 _) _) _
  · exact blk_alloc (blk_alloc (blk_alloc y2 _) _) _
  · exact World.ownsRow_nil _ _ _ _
  · refine ((b3.alloc ?_ _).alloc ?_ _).alloc ?_ _ <;> (try simp only [World.size_alloc]) <;> omega
theorem results_cc {W : World} {r : Nat} {v : Value} {b : Bool} (h0 : W.heap[r]? = some (.cells #[v] 33 (0, 0))) (h1 : W.heap[r + 1]? = some (.cells #[.bool b] 4 (0, 0))) (tmps : Array Value)
    (hp : tmps.getD 4 undef = .pointer (some ⟨r, 0, none⟩)) (hq : tmps.getD 5 undef = .pointer (some ⟨r + 1, 0, none⟩)) :
    (results Tryz.f43 tmps).run Tryz.prog W = .ok (.tuple #[v, .bool b]) W := by
  have hp' : tmps[4]?.getD undef = .pointer (some ⟨r, 0, none⟩) := by simpa using hp
  have hq' : tmps[5]?.getD undef = .pointer (some ⟨r + 1, 0, none⟩) := by simpa using hq
  have hres : Tryz.f43.results = #[.cell 4 33, .cell 5 4] := rfl
  have hc := cell_at h1
  have hd := cell_at h0
  have hl : (loadVar 4 ⟨r + 1, 0, none⟩).run Tryz.prog W = .ok (.bool b) W := by
    simp [loadVar, isAgg, underlying, Tryz.underlying4, hc, Result.andThen]
  have hm : (loadVar 33 ⟨r, 0, none⟩).run Tryz.prog W = .ok v W := by
    simp [loadVar, isAgg, underlying, Tryz.underlying33, hd, Result.andThen]
  simp [results, hres, hp', hq', asAddr, hl, hm]
end Go.Proofs.YtlpnggaeepjjfaaGreatDoor.Cut

namespace Go.Proofs.YtlpnggaeepjjfaaGreatDoor.Cut
open Go.RowKit Go.Shelf Go.Proofs.YtlpnggaeepjjfaaGreatDoorW.PrintWords Go.Proofs.YtlpnggaeepjjfaaGreatDoor.Bo
set_option linter.unusedVariables false
set_option linter.unusedSimpArgs false
attribute [local go_sem] Oper.semAt_some
set_option maxRecDepth 100000 in
set_option maxHeartbeats 4000000 in
theorem numbers_calls (s : ByteArray) (want : Int) (w : World) (hs : s.size ≤ 8796093022208) (hL : Lw w) : Calls Tryz.prog 43 #[.string s, .int .i64 want] w (NumPost s want w) := by
  refine (callsIn_wide (n := 4)).1 ?_
  refine callsIn_of_wp_marks Tryz.func43 rfl trivial ?_ rfl
  simp only [Tryz.ntmps43, List.size_toArray, List.length_cons, List.length_nil, Nat.reduceAdd, Nat.reduceSub, Array.replicate_succ, Array.replicate_zero, List.push_toArray, List.append_toArray, List.nil_append, List.cons_append]
  gi_wp2_with (first | (refine ⟨trivial, ?_⟩; gi_at_call 66; refine (callsIn_wide.2 (seq_calls s _)).mono ?_; rintro e w' ⟨rfl, rfl⟩) | (gi_at_call 66; refine (callsIn_wide.2 (seq_calls s _)).mono ?_; rintro e w' ⟨rfl, rfl⟩))
  obtain ⟨r, hr⟩ : ∃ r, w.heap.size = r := ⟨_, rfl⟩
  rw [hr]
  obtain ⟨W0, hW0⟩ : ∃ W0, W0 = (((((w.alloc (.cells #[.slice none 0 0] 33)).alloc (.cells #[.bool false] 4)).alloc (.cells #[.slice none 0 0] 33)).alloc (.cells #[.string s] 9)).alloc (.cells #[.string ⟨#[32]⟩] 9)).alloc (.cells #[.int .i64 0] 3) := ⟨_, rfl⟩
  rw [← hW0]
  obtain ⟨s0, k3, k4, k5, hS0⟩ := start_st hr hW0
  simp only [Nat.add_assoc, Nat.reduceAdd]
  clear hW0
  obtain ⟨i0, hi, hz0, hz1, hz2⟩ := info_parts Q.info3
  have hrB : w.heap.size ≤ r + 6 := by omega
  refine range_cut rfl (by omega) (gf := 105) (lb := #[.pointer (some ⟨r + 4, 0, none⟩), .pointer (some ⟨r + 3, 0, none⟩), .pointer (some ⟨r + 5, 0, none⟩)]) rfl trivial (enters_of Tryz.func105 (by kernel_rfl) rfl) (encs := fun x : ByteArray => #[Value.string x])
    (bs := [r + 4, r + 3, r + 5]) (S := fun xs => xs = pieces s) (Sp := fun pre => pre <+: pieces s) (G := fun pre x => pre ++ [x] <+: pieces s) (b := some (r + 3)) ?hbs (fun k e => by cases e; omega) (w0 := W0) ?seq (Below.refl _ _) (fun _ => rfl)
    (fun pre W => ∃ xs v, nums pre = some xs ∧ St w W r (r + 6) v xs) (fun c pre W => c = .ret ∧ (∃ q x, pre = q ++ [x] ∧ ∀ v, Lib.atoiAll x.data.toList ≠ .ok v) ∧ Sx w W r) ?hI ?hIx ?hJ ?hJx ?h0 (fun x => { tmps := #[.string s, .int .i64 want, undef, undef, .pointer (some ⟨r, 0, none⟩), .pointer (some ⟨r + 1, 0, none⟩), .pointer (some ⟨r + 2, 0, none⟩), .string x, undef, undef, .string s, .func (.func 105) #[] #[.pointer (some ⟨r + 4, 0, none⟩), .pointer (some ⟨r + 3, 0, none⟩), .pointer (some ⟨r + 5, 0, none⟩)], .string x, undef, undef, undef, undef, undef, undef, undef, undef, undef, undef, undef, undef, undef, undef, undef, undef], defers := [] }) ?assign ?body ?done ?stop
  case hbs => intro k hk; simp only [List.mem_cons, List.not_mem_nil, or_false] at hk; omega
  case seq =>
    intro l J Jx W hW hJ hJx hY hj0
    exact iter _ (by omega) l (r + 4) (r + 3) (r + 5) s hs (by omega) (by omega) J Jx (hJ _ rfl) hY W ((hW.block _ (by omega)).trans k4) ((hW.block _ (by omega)).trans k3) ((hW.block _ (by omega)).trans k5) hj0
  case hI =>
    rintro q A A' row ⟨xs, v, h1, hS⟩ hg hrow
    exact ⟨xs, v, h1, hS.abides hrB hg (fun q e => by have := hrow q e; rw [s0] at this; exact this)⟩
  case hIx =>
    rintro c q A A' row ⟨h1, h2, hS⟩ hg hrow
    exact ⟨h1, h2, hS.abides hrB hg (fun q e => by have := hrow q e; rw [s0] at this; exact this)⟩
  case hJ =>
    rintro k hk q A v ⟨xs, v', h1, hS⟩
    cases hk
    exact ⟨xs, v', h1, hS.cell hr (by omega) v⟩
  case hJx =>
    rintro k hk c q A v ⟨h1, h2, hS⟩
    cases hk
    exact ⟨h1, h2, hS.cell hr v⟩
  case h0 => exact ⟨[], _, rfl, hS0⟩
  case assign =>
    intro l x W K hK
    gi_wp2
    exact hK
  case body =>
    rintro l pre x W ⟨xs, v, hn, hS⟩ hpre
    rw [s0]
    have hxs : x.size ≤ 8796093022208 := Nat.le_trans (pieces_mem (hpre.subset (List.mem_append.2 (.inr (List.mem_singleton.2 rfl))))) hs
    have hlen : xs.length + 1 ≤ s.size + 1 := by
      have h1 := hpre.length_le
      rw [List.length_append, List.length_singleton] at h1
      rw [nums_len pre xs hn]
      exact Nat.le_trans h1 (pieces_len s)
    clear hpre
    have hLW := hL.on hS.below
    have hWs := hS.size
    obtain ⟨A, c, rfl, hcap⟩ := hS.slice
    obtain ⟨k, hk⟩ : ∃ k, xs.length = k := ⟨_, rfl⟩
    rw [hk] at hcap hlen
    by_cases ha : ∃ u, Lib.atoiAll x.data.toList = .ok u
    · obtain ⟨u, hu⟩ := ha
      have HA := Aside0.mk (atoi_ok x hxs u hu)
      have HS := Aside0.mk hS
      have HN := Aside0.mk (nums_snoc pre xs x u hn hu)
      clear hu hn hLW hS
      gi_wp2_with (first | (gi_at_call 67; refine (callsIn_wide.2 (HA.out _)).mono ?_; rintro e w1 ⟨rfl, hb⟩; have hS1 := HS.out.quiet (gb_of_below hb); have c20 := cell_at hS1.pc; have f20 := froz_at hS1.pc; rw [hk] at c20; have hrow := hS1.row; rw [hk] at hrow; have hWs1 := hS1.size; have HB := Aside0.mk hb; clear hb) | (refine ⟨trivial, ?_⟩; gi_at_call 67; refine (callsIn_wide.2 (HA.out _)).mono ?_; rintro e w1 ⟨rfl, hb⟩; have hS1 := HS.out.quiet (gb_of_below hb); have c20 := cell_at hS1.pc; have f20 := froz_at hS1.pc; rw [hk] at c20; have hrow := hS1.row; rw [hk] at hrow; have hWs1 := hS1.size; have HB := Aside0.mk hb; clear hb) | (gi_at_builtin; go_loud (refine wpListIn_append_own _ rfl (.tmp 20) (.tmp 22) 33 rfl (r + 6) 3 i0 (.int .i64 0) 1 8 Tryz.underlying33 hi hz0 hz1 hz2 rfl (by decide) (.slice A k c) k (encs (Value.int .i64) xs) rfl (hrow.alloc _) ⟨w1.heap.size, 0, none⟩ 1 1 [.int .i64 u] rfl rfl (cell_one_new _ _ _) (by simp [Value.oneCell']) (by simp [maxLen]; omega) (by omega) (by rw [World.size_alloc]; omega) ?_); intro v1 w2 hown hg hnil; obtain ⟨g1, cap1, rfl⟩ := ownsRow_succ hown; go_loud (have hst := hS1.step (x := u) hr (by omega) (by rw [hk]; exact hown) (by rw [hk]; exact hg)); go_loud (have hp1 := cell_grown hS1.pc hown hg (fun g e => by have := (row_block hrow e).1; omega)); have t20 := froz_at hp1; have t21 := cell_at hp1))
      exact ⟨(keeps_of_below HB.out).trans hst.1, (kept_of_below HB.out (fun q hq => by simp only [List.mem_cons, List.not_mem_nil, or_false] at hq; omega)).trans hst.2.1, _, _, HN.out, hst.2.2⟩
    · have hno : ∀ u, Lib.atoiAll x.data.toList ≠ .ok u := fun u e => ha ⟨u, e⟩
      have HA := Aside0.mk (atoi_bad x hxs hno)
      have HS := Aside0.mk hS
      have HL := Aside0.mk hLW
      clear ha hn hS hLW
      gi_wp2_with (first | (gi_at_call 67; refine (callsIn_wide.2 (HA.out _ HL.out)).mono ?_; rintro e w1 ⟨⟨u, t, p, rfl⟩, hb⟩; have hS1 := HS.out.quiet (gb_of_below hb); have f1 := froz_at hS1.zc; have f2 := froz_at hS1.ec; have c1 := cell_at hS1.zc; have c2 := cell_at hS1.ec; have HB := Aside0.mk hb; clear hb) | (refine ⟨trivial, ?_⟩; gi_at_call 67; refine (callsIn_wide.2 (HA.out _ HL.out)).mono ?_; rintro e w1 ⟨⟨u, t, p, rfl⟩, hb⟩; have hS1 := HS.out.quiet (gb_of_below hb); have f1 := froz_at hS1.zc; have f2 := froz_at hS1.ec; have c1 := cell_at hS1.zc; have c2 := cell_at hS1.ec; have HB := Aside0.mk hb; clear hb))
      refine ⟨(keeps_of_below HB.out).trans (((KeepsOthers.setCell _ _ _).trans (KeepsOthers.setCell _ _ _)).from _), rfl, ⟨pre, x, rfl, hno⟩, ?_, ?_, ?_⟩
      · exact heap_set_ne (by omega) (blk_put hS1.zc 0 _ rfl)
      · exact blk_put (blk_far hS1.ec (by show r + 1 ≠ r; omega) _) 0 _ rfl
      · exact (hS1.below.setCell (by show w.heap.size ≤ r; omega) _).setCell (by show w.heap.size ≤ r + 1; omega) _
  case done =>
    rintro D xs0 W hD rfl ⟨xs, v, hn, hS⟩ hK
    obtain ⟨A, c, rfl, hcap⟩ := hS.slice
    have c20 := cell_at hS.pc
    have c00 := cell_at hS.zc
    have f00 := froz_at hS.zc
    have c10 := cell_at hS.ec
    have f10 := froz_at hS.ec
    obtain ⟨k, hk⟩ : ∃ k, xs.length = k := ⟨_, rfl⟩
    rw [hk] at c20 hcap
    gi_wp2
    gi_region
    gi_wp2
    have hKs : ∀ (W' : World) (p : Addr) (u : Value), p.block < D → W'.heap[D]? = some (.deferred (some [])) → (W'.setCell p u).heap[D]? = some (.deferred (some [])) := fun W' p u hp h => (Below.heap_setCell _ _ _ _ (by omega)).trans h
    have hK' := hKs _ ⟨r + 1, 0, none⟩ (.bool ((k : Int) == want)) (by show r + 1 < D; omega) (hKs _ ⟨r, 0, none⟩ (.slice A k c) (by show r < D; omega) hK)
    have hrow := hS.row
    rw [hk] at hrow
    have hrow2 : (((W.setCell ⟨r, 0, none⟩ (.slice A k c)).setCell ⟨r + 1, 0, none⟩ (.bool ((k : Int) == want))).drew).ownsRow (r + 6) 3 1 (.slice A k c) k (encs (Value.int .i64) xs) :=
      row_kept (ownsRow_setCell_below (ownsRow_setCell_below hrow (by show r < r + 6; omega) _) (by show r + 1 < r + 6; omega) _) (gb_drew _ none) nofun
    have g0 : (((W.setCell ⟨r, 0, none⟩ (.slice A k c)).setCell ⟨r + 1, 0, none⟩ (.bool ((k : Int) == want))).drew).heap[r]? = some (.cells #[.slice A k c] 33 (0, 0)) := heap_set_ne (b := r + 1) (by omega) (blk_put hS.zc 0 _ rfl)
    have g1 : (((W.setCell ⟨r, 0, none⟩ (.slice A k c)).setCell ⟨r + 1, 0, none⟩ (.bool ((k : Int) == want))).drew).heap[r + 1]? = some (.cells #[.bool ((k : Int) == want)] 4 (0, 0)) := blk_put (blk_far hS.ec (p := ⟨r, 0, none⟩) (by show r + 1 ≠ r; omega) _) 0 _ rfl
    have hb2 : Below w.heap.size w (((W.setCell ⟨r, 0, none⟩ (.slice A k c)).setCell ⟨r + 1, 0, none⟩ (.bool ((k : Int) == want))).drew) := by
      have b1 : Below w.heap.size w (W.setCell ⟨r, 0, none⟩ (.slice A k c)) := hS.below.setCell (by show w.heap.size ≤ r; omega) _
      have : Below w.heap.size w ((W.setCell ⟨r, 0, none⟩ (.slice A k c)).setCell ⟨r + 1, 0, none⟩ (.bool ((k : Int) == want))) := b1.setCell (by show w.heap.size ≤ r + 1; omega) _
      exact ⟨this.os, this.tape, this.output, this.size, this.block⟩
    obtain ⟨V, hV⟩ : ∃ V, (((W.setCell ⟨r, 0, none⟩ (.slice A k c)).setCell ⟨r + 1, 0, none⟩ (.bool ((k : Int) == want))).drew) = V := ⟨_, rfl⟩
    have hKV : V.heap[D]? = some (.deferred (some [])) := by rw [← hV]; exact hK'
    rw [hV] at g0 g1 hrow2 hb2
    rw [hV]
    refine ⟨by simp, .inl ⟨_, _, rfl, run_takeDeferred hKV, ?_⟩⟩
    have hR : numR s want = (xs, decide ((xs.length : Int) = want)) := by unfold numR; rw [hn]
    have hbe : ((k : Int) == want) = decide ((xs.length : Int) = want) := by rw [hk]; rfl
    refine ⟨_, results_cc ((heap_put_ne (l := D) (b := r) (o := .deferred none) (by omega)).trans g0) ((heap_put_ne (l := D) (b := r + 1) (o := .deferred none) (by omega)).trans g1) _ rfl rfl, .slice A k c, by rw [hR, hbe], ?_, ?_⟩
    · rw [hR]
      refine Kd.R_of_own (row_base (ownsRow_putObj ?_ _ hKV rfl) (base := r + 6) (by omega)) (fun _ _ => trivial)
      show V.ownsRow (r + 6) 3 1 (.slice A k c) xs.length _
      rw [hk]
      exact hrow2
    · exact hb2.trans (belowK_b (w := w) (Nat.le_refl _) _ D _ _ (by omega) hKV rfl rfl)
  case stop =>
    rintro D c pre W hD hpre ⟨rfl, ⟨q, x, rfl, hno⟩, hS⟩ hK
    gi_wp2
    refine ⟨by simp, .inl ⟨_, _, rfl, run_takeDeferred hK, ?_⟩⟩
    have g0 := (heap_put_ne (l := D) (b := r) (o := .deferred none) (by omega)).trans hS.zc
    have g1 := (heap_put_ne (l := D) (b := r + 1) (o := .deferred none) (by omega)).trans hS.ec
    have hR : numR s want = ([], false) := by
      obtain ⟨t, ht⟩ := hpre
      have := nums_bad q x t hno
      rw [List.append_assoc] at ht
      unfold numR
      rw [← ht]
      show (match nums (q ++ x :: t) with | some xs => _ | none => _) = _
      rw [this]
    refine ⟨_, results_cc g0 g1 _ rfl rfl, .slice none 0 0, by rw [hR], ?_, ?_⟩
    · rw [hR]; exact Kd.R_nil _ _ _ _ _
    · exact hS.below.trans (belowK_b (w := w) (Nat.le_refl _) _ D _ _ (by omega) hK rfl rfl)
end Go.Proofs.YtlpnggaeepjjfaaGreatDoor.Cut

namespace Go.Proofs.YtlpnggaeepjjfaaGreatDoor.Bo
open Go.RowKit Go.Sort Go.Proofs.YtlpnggaeepjjfaaGreatDoorW.PrintWords Go.Proofs.YtlpnggaeepjjfaaGreatDoorW.PrintLast
set_option linter.unusedVariables false
set_option linter.unusedSimpArgs false
theorem ints_cell {w : World} {g : Nat} {xs : List Int} {fz : Nat × Nat} (h : w.heap[g]? = some (.cells (xs.map (Value.int .i64)).toArray 3 fz)) {k : Nat} (hk : k < xs.length) : w.cell? ⟨g, k, none⟩ = some (.int .i64 (xs.getD k 0)) := by
  simp [World.cell?, h, List.getD_eq_getElem?_getD, List.getElem?_eq_getElem hk]
set_option maxRecDepth 100000 in
set_option maxHeartbeats 4000000 in
theorem line_calls {sb g : Nat} {acc : List UInt8} {w0 w : World} (h : TB sb acc w0 w) (hL : Lw w) (hs : 4 ≤ sb) (xs : List Int) (hx : ∀ x ∈ xs, 0 ≤ x ∧ x ≤ 9223372036854775807)
    (hg : w.heap[g]? = some (.cells (xs.map (Value.int .i64)).toArray 3 (0, 0))) (hgs : g ≠ sb) (n : Nat) (hn : xs.length = n) (hl : n ≤ 4) (hacc : acc.length + 100 ≤ 140737488355328) :
    Calls Tryz.prog 30 #[.slice (some ⟨g, 0, none⟩) n n, .pointer (some ⟨sb, 0, none⟩)] w fun e w' => e = .returned (.tuple #[]) ∧ TB sb (acc ++ spK xs n) w0 w' := by
  have HS := Aside0.mk h
  have HT := Aside0.mk (show TB sb (acc ++ spK xs 0) w w by simp only [spK, List.append_nil]; exact ⟨h.1, Below.refl _ _, Lib.OthersKept.refl _ _ _⟩)
  have HL := Aside0.mk hL
  have HX := Aside0.mk hx
  have HG := Aside0.mk hg
  have HN := Aside0.mk hn
  have HP := Aside0.mk (show ∀ k, k ≤ xs.length → (acc ++ spK xs k).length ≤ acc.length + 20 * k by
    intro k hk
    rw [List.length_append]
    have := sp_len xs hx k hk
    omega)
  clear h hL hx hg hn
  go_enter Tryz.func30, Tryz.ntmps30
  go_wp2
  go_loopw [7] (fun i wr => ∃ k : Nat, k ≤ n ∧ i = .int .i64 k ∧ Aside0 (TB sb (acc ++ spK xs k) w wr)) (fun i _ => n - (intOf i).toNat)
  case atStart => exact ⟨0, by omega, rfl, HT⟩
  case round =>
    obtain ⟨k, hk, rfl, HW⟩ := hrel
    by_cases hlt : k < n
    · have hkl : k < xs.length := by rw [HN.out]; exact hlt
      have hc := ints_cell (HW.out.heap HG.out hgs (by decide)) hkl
      have hxm : xs.getD k 0 ∈ xs := by rw [List.getD_eq_getElem?_getD, List.getElem?_eq_getElem hkl]; exact List.getElem_mem _
      have hlen := HP.out k (by omega)
      obtain ⟨hx0, hx1⟩ := HX.out _ hxm
      have hi := itoa_len _ hx0 hx1
      have HQ := Aside0.mk (show spK xs (k + 1) = (spK xs k ++ if k = 0 then [] else [32]) ++ Lib.itoa (xs.getD k 0) from rfl)
      obtain ⟨x, hxx⟩ : ∃ x, xs.getD k 0 = x := ⟨_, rfl⟩
      rw [hxx] at hc hx0 hx1 hi HQ
      have j1 : (k : Int) < (n : Int) := by omega
      have j2 : (0 : Int) ≤ (k : Int) := by omega
      have LWr := Aside0.mk (HL.out.below HW.out.2.1 hs)
      clear hxx hxm hkl
      by_cases hk0 : k = 0
      · subst hk0
        have HL2 := Aside0.mk (show (acc ++ spK xs 0).length + (Lib.itoa x).length ≤ 140737488355328 by omega)
        clear hi hlen
        go_wp2_with (first | (go_at_call 33; (with_reducible refine (itoa_calls x hx0 hx1 _ LWr.out).mono ?_); rintro e w2 ⟨rfl, hq⟩; have HW2 := Aside0.mk (HW.out.quiet hq); clear hq) | (go_at_call 32; (with_reducible refine (ws_calls HW2.out (Lib.itoa x) HL2.out).mono ?_); rintro e w3 ⟨⟨v3, rfl⟩, h3⟩; have HW3 := Aside0.mk h3; clear h3))
        go_roundw
        case rel => exact ⟨1, by omega, rfl, ⟨by rw [HQ.out]; simpa using HW3.out⟩⟩
        case measure => simp [intOf]; omega
      · have j3 : (0 : Int) < (k : Int) := by omega
        have j4 : 0 < k := by omega
        have HL1 := Aside0.mk (show (acc ++ spK xs k).length + 1 ≤ 140737488355328 by omega)
        have HL2 := Aside0.mk (show (acc ++ spK xs k ++ [32]).length + (Lib.itoa x).length ≤ 140737488355328 by rw [List.length_append, List.length_singleton]; omega)
        clear hi hlen
        go_wp2_with (first | (go_at_call 31; (with_reducible refine (wb_calls HW.out 32 32 rfl HL1.out).mono ?_); rintro e w1 ⟨rfl, h1⟩; have HW1 := Aside0.mk h1; have LW1 := Aside0.mk (HL.out.below h1.2.1 hs); clear h1) | (go_at_call 33; (with_reducible refine (itoa_calls x hx0 hx1 _ LW1.out).mono ?_); rintro e w2 ⟨rfl, hq⟩; have HW2 := Aside0.mk (HW1.out.quiet hq); clear hq) | (go_at_call 32; (with_reducible refine (ws_calls HW2.out (Lib.itoa x) HL2.out).mono ?_); rintro e w3 ⟨⟨v3, rfl⟩, h3⟩; have HW3 := Aside0.mk h3; clear h3))
        go_roundw
        case rel => exact ⟨k + 1, by omega, by go_num, ⟨by rw [HQ.out, if_neg hk0]; simpa using HW3.out⟩⟩
        case measure => simp [intOf]; omega
    · obtain rfl : k = n := by omega
      have j1 : ¬ (k : Int) < (k : Int) := by omega
      go_wp2
      go_end0
      exact ⟨rfl, HS.out.step HW.out⟩
end Go.Proofs.YtlpnggaeepjjfaaGreatDoor.Bo

namespace Go.Proofs.YtlpnggaeepjjfaaGreatDoor.Bo
open Go.RowKit Go.Sort Go.Proofs.YtlpnggaeepjjfaaGreatDoorW.PrintWords Go.Proofs.YtlpnggaeepjjfaaGreatDoorW.PrintLast
set_option linter.unusedVariables false
set_option linter.unusedSimpArgs false
def closedB : List UInt8 := [32, 99, 108, 111, 115, 101, 100]
def rowT (i : Nat) (x : Rw) : List UInt8 := if x.use = 0 then [] else (spK [(i : Int), x.use, x.used, x.live] 4 ++ if x.closed = true then closedB else []) ++ [10]
def textK (size : Int) (L : List Rw) : Nat → List UInt8
  | 0 => spK [(L.length : Int), size] 2 ++ [10]
  | k + 1 => textK size L k ++ rowT k (L.getD k zRw)
def textR (size : Int) (L : List Rw) : ByteArray := ⟨(textK size L L.length).toArray⟩
theorem four_ok {i : Nat} {x : Rw} {size : Int} (hi : i < 256) (hs : size ≤ 16777216) (h : 0 ≤ x.use ∧ x.use ≤ 3 ∧ 0 ≤ x.live ∧ x.live ≤ x.used ∧ x.used ≤ size) : ∀ y ∈ [(i : Int), x.use, x.used, x.live], 0 ≤ y ∧ y ≤ 9223372036854775807 := by
  intro y hy
  simp only [List.mem_cons, List.not_mem_nil, or_false] at hy
  rcases hy with rfl | rfl | rfl | rfl <;> omega
theorem two_ok {size : Int} {L : List Rw} (h : Ok size L) : ∀ y ∈ [(L.length : Int), size], 0 ≤ y ∧ y ≤ 9223372036854775807 := by
  have h1 := h.lo; have h2 := h.hi; have h3 := h.len
  intro y hy
  simp only [List.mem_cons, List.not_mem_nil, or_false] at hy
  rcases hy with rfl | rfl <;> omega
theorem row_len {i : Nat} {x : Rw} {size : Int} (hi : i < 256) (hs : size ≤ 16777216) (h : 0 ≤ x.use ∧ x.use ≤ 3 ∧ 0 ≤ x.live ∧ x.live ≤ x.used ∧ x.used ≤ size) : (rowT i x).length ≤ 88 := by
  have := sp_len _ (four_ok hi hs h) 4 (by simp)
  unfold rowT
  split
  · simp
  · rw [List.length_append, List.length_append]
    split <;> simp [closedB] <;> omega
theorem text_len {size : Int} {L : List Rw} (h : Ok size L) (k : Nat) (hk : k ≤ L.length) : (textK size L k).length ≤ 41 + 88 * k := by
  induction k with
  | zero =>
    have := sp_len _ (two_ok h) 2 (by simp)
    rw [textK, List.length_append]
    simp
    omega
  | succ k ih =>
    have h1 := ih (by omega)
    have h2 := row_len (i := k) (by have := h.len; omega) h.hi (h.rows _ (getD_mem (show k < L.length by omega)))
    rw [textK, List.length_append]
    omega
theorem TB.self {sb : Nat} {acc : List UInt8} {w0 w : World} (h : TB sb acc w0 w) : TB sb acc w w := ⟨h.1, Below.refl _ _, Lib.OthersKept.refl _ _ _⟩
theorem fresh_TB (w : World) : TB w.heap.size [] w (w.alloc (.cells #[.pointer none, .slice none 0 0] 61)) :=
  ⟨Lib.IsBuilderF.of (Lib.fresh_isBuilder 61 5 w), (Below.refl _ _).alloc (Nat.le_refl _) _, (Lib.OthersKept.refl _ _ _).alloc _⟩
theorem cell_blk {w : World} {k i : Nat} {cs : Array Value} {t : TypeId} {fz : Nat × Nat} {v : Value} (h : w.heap[k]? = some (.cells cs t fz)) (hv : cs[i]? = some v) : w.cell? ⟨k, i, none⟩ = some v := by
  simp [World.cell?, h, hv]
theorem wsc_calls {sb : Nat} {acc : List UInt8} {w0 w : World} (h : TB sb acc w0 w) (hlen : acc.length + 7 ≤ 140737488355328) :
    Calls Tryz.prog 32 #[.pointer (some ⟨sb, 0, none⟩), .string ⟨#[32, 99, 108, 111, 115, 101, 100]⟩] w fun e w' => (∃ v, e = .returned v) ∧ TB sb (acc ++ closedB) w0 w' := ws_calls h closedB hlen
set_option maxRecDepth 100000 in
set_option maxHeartbeats 4000000 in
theorem text_calls {w : World} {b q : Nat} {size : Int} {L : List Rw} (S : Bk 71 36 w b q size L) (hO : Ok size L) (hL : Lw w) :
    Calls Tryz.prog 11 #[.pointer (some ⟨b, 0, none⟩)] w fun e w' => e = .returned (.string (textR size L)) ∧ Below w.heap.size w w' := by
  have HS := Aside0.mk S
  have HO := Aside0.mk hO
  have HL := Aside0.mk hL
  have hw4 := hL.lt
  have HTB := Aside0.mk (fresh_TB w)
  have hl := hO.len
  obtain ⟨c0, c1⟩ := (S.on ((Below.refl _ w).alloc (Nat.le_refl _) (.cells #[.pointer none, .slice none 0 0] 61))).book
  obtain ⟨m, hm⟩ : ∃ m, L.length = m := ⟨_, rfl⟩
  have HT := Aside0.mk (text_len hO)
  have H2 := Aside0.mk (two_ok hO)
  have H0 := Aside0.mk (show textK size L 0 = spK [(L.length : Int), size] 2 ++ [10] from rfl)
  have HR := Aside0.mk (show textR size L = ⟨(textK size L L.length).toArray⟩ from rfl)
  rw [hm] at c1 hl H2 H0 HR
  have HM := Aside0.mk hm
  have H4 := Aside0.mk (fun (k : Nat) (hk : k < L.length) => four_ok (i := k) (by have := hO.len; omega) hO.hi (hO.rows _ (getD_mem hk)))
  have HRl := Aside0.mk (fun (k : Nat) (hk : k < L.length) => sp_len _ (four_ok (i := k) (by have := hO.len; omega) hO.hi (hO.rows _ (getD_mem hk))) 4 (by simp))
  have HBk := Aside0.mk (show ∀ W', Below w.heap.size w W' → W'.cell? ⟨b, 0, none⟩ = some (.int .i64 size) ∧ W'.cell? ⟨b, 1, none⟩ = some (.slice (some ⟨q, 0, none⟩) m m) by
    intro W' hb
    have h := (S.on hb).book
    rw [hm] at h
    exact h)
  have HL0 := Aside0.mk (sp_len _ H2.out 2 (by simp))
  clear S hO hm hL
  have HB4 := Aside0.mk hw4
  have HQ1 := Aside0.mk (HTB.out.quiet (gb_trans (gb_alloc (gb_refl _ _) (.cells #[.int .i64 (m : Int), .int .i64 size] 3)) (gb_drew _ none)))
  have HG1 := Aside0.mk (show (((w.alloc (.cells #[.pointer none, .slice none 0 0] 61)).alloc (.cells #[.int .i64 (m : Int), .int .i64 size] 3)).drew).heap[w.heap.size + 1]? = some (.cells (([(m : Int), size].map (Value.int .i64)).toArray) 3 (0, 0)) from (by rw [← World.size_alloc w (.cells #[.pointer none, .slice none 0 0] 61)]; exact blk_new _ _))
  have HLA := Aside0.mk (HL.out.below HQ1.out.2.1 hw4)
  have HNE := Aside0.mk (show w.heap.size + 1 ≠ w.heap.size by omega)
  clear hw4
  go_enter Tryz.func11, Tryz.ntmps11
  go_wp2
  go_region_held3 (fun W => W.cell? ⟨b, 0, none⟩ = some (.int .i64 size) ∧ W.cell? ⟨b, 1, none⟩ = some (.slice (some ⟨q, 0, none⟩) m m)) ((first | go_keep | assumption | exact HBk.out _ HW1.out.2.1)) ((go_at_call 30; go_loud (with_reducible refine (line_calls HQ1.out HLA.out HB4.out _ H2.out HG1.out HNE.out 2 rfl (by decide) (by simp)).mono ?_); rintro e w1 ⟨rfl, h1⟩; have HW1 := Aside0.mk h1; clear h1))
  have LW1 := Aside0.mk (HL.out.below HW1.out.2.1 HB4.out)
  have HP1 := Aside0.mk (show ([] ++ spK [(m : Int), size] 2).length + 1 ≤ 140737488355328 by have := HL0.out; rw [List.nil_append]; omega)
  obtain ⟨d0, d1⟩ := HBk.out _ HW1.out.2.1
  go_wp2_with (go_at_call 31; go_loud (with_reducible refine (wb_calls HW1.out 10 10 rfl HP1.out).mono ?_); rintro e w2 ⟨rfl, h1⟩; have HW2 := Aside0.mk (show TB w.heap.size (textK size L 0) w w2 by rw [H0.out]; simpa using h1); clear h1; obtain ⟨e0, e1⟩ := HBk.out _ HW2.out.2.1)
  clear HQ1 HG1 HNE HLA HP1 HL0 HTB c0 c1 d0 d1
  go_loopw [28] (fun i wr => ∃ k : Nat, k ≤ m ∧ i = .int .i64 k ∧ Aside0 (TB w.heap.size (textK size L k) w wr)) (fun i _ => m - (intOf i).toNat)
  case atStart => exact ⟨0, by omega, rfl, HW2⟩
  case round =>
    obtain ⟨k, hk, rfl, HW⟩ := hrel
    by_cases hlt : k < m
    · have hkl : k < L.length := by rw [HM.out]; exact hlt
      have hlen := HT.out k (by omega)
      have hsp := HRl.out k hkl
      have H4k := Aside0.mk (H4.out k hkl)
      obtain ⟨⟨u, a, l, c⟩, hx⟩ : ∃ x, L.getD k zRw = x := ⟨_, rfl⟩
      obtain ⟨r0, r1, r2, r3⟩ := (HS.out.on HW.out.2.1).row (getD_some hkl)
      have hn := Aside0.mk (show textK size L (k + 1) = textK size L k ++ rowT k ⟨u, a, l, c⟩ by rw [textK, hx])
      rw [hx] at r0 r1 r2 r3 H4k hsp
      dsimp only at r0 r1 r2 r3 H4k hsp
      have j1 : (k : Int) < (m : Int) := by omega
      have j2 : (0 : Int) ≤ (k : Int) := by omega
      have hwl := HW.out.lt
      clear hx hkl
      by_cases h1 : u = 0
      · subst h1
        clear hsp hlen
        have HW3 := Aside0.mk (HW.out.quiet (gb_alloc (gb_refl _ _) (.cells #[.int .i64 0, .int .i64 a, .int .i64 l, .bool c] 36)))
        go_wp2
        go_roundw
        case rel => exact ⟨k + 1, by omega, by go_num, ⟨by rw [hn.out]; simp only [rowT, if_pos, List.append_nil]; exact HW3.out⟩⟩
        case measure => simp [intOf]; omega
      · have h2 : (u == 0) = false := beq_eq_false_iff_ne.2 h1
        have HC1 := Aside0.mk (blk_new wr (.cells #[.int .i64 u, .int .i64 a, .int .i64 l, .bool c] 36))
        have HQ2 := Aside0.mk (HW.out.quiet (gb_alloc (gb_alloc (gb_refl _ _) (.cells #[.int .i64 u, .int .i64 a, .int .i64 l, .bool c] 36)) (.cells #[.int .i64 (k : Int), .int .i64 u, .int .i64 a, .int .i64 l] 3)))
        have HG2 := Aside0.mk (show (((wr.alloc (.cells #[.int .i64 u, .int .i64 a, .int .i64 l, .bool c] 36)).alloc (.cells #[.int .i64 (k : Int), .int .i64 u, .int .i64 a, .int .i64 l] 3))).heap[wr.heap.size + 1]? = some (.cells (([(k : Int), u, a, l].map (Value.int .i64)).toArray) 3 (0, 0)) from (by rw [← World.size_alloc wr (.cells #[.int .i64 u, .int .i64 a, .int .i64 l, .bool c] 36)]; exact blk_new _ _))
        have HNE := Aside0.mk (show wr.heap.size + 1 ≠ w.heap.size by omega)
        have HNE2 := Aside0.mk (show wr.heap.size ≠ w.heap.size by omega)
        have HLA := Aside0.mk (HL.out.below HQ2.out.2.1 HB4.out)
        have HN1 := Aside0.mk (show (textK size L k).length + 100 ≤ 140737488355328 by omega)
        have HN2 := Aside0.mk (show (textK size L k ++ spK [(k : Int), u, a, l] 4).length + 7 ≤ 140737488355328 by rw [List.length_append]; omega)
        have HN3 := Aside0.mk (show (textK size L k ++ spK [(k : Int), u, a, l] 4 ++ closedB).length + 1 ≤ 140737488355328 by rw [List.length_append, List.length_append]; simp [closedB]; omega)
        have HN4 := Aside0.mk (show (textK size L k ++ spK [(k : Int), u, a, l] 4).length + 1 ≤ 140737488355328 by rw [List.length_append]; omega)
        clear hlen hsp hwl
        cases c with
        | true =>
          have hR := Aside0.mk (show textK size L k ++ rowT k ⟨u, a, l, true⟩ = textK size L k ++ spK [(k : Int), u, a, l] 4 ++ closedB ++ [10] by simp [rowT, h1])
          go_wp2_with (first | (go_at_call 30; go_loud (with_reducible refine (line_calls HQ2.out.self HLA.out HB4.out _ H4k.out HG2.out HNE.out 4 rfl (by decide) HN1.out).mono ?_); rintro e w3 ⟨rfl, h3⟩; have hcl := cell_blk (i := 3) (h3.heap (blk_alloc HC1.out _) HNE2.out (by decide)) rfl; have HW3 := Aside0.mk (HQ2.out.step h3); clear h3) | (go_at_call 32; go_loud (with_reducible refine (wsc_calls HW3.out HN2.out).mono ?_); rintro e w4 ⟨⟨v4, rfl⟩, h4⟩; have HW4 := Aside0.mk h4; clear h4) | (go_at_call 31; go_loud (with_reducible refine (wb_calls HW4.out 10 10 rfl HN3.out).mono ?_); rintro e w5 ⟨rfl, h5⟩; have HW5 := Aside0.mk h5; clear h5))
          go_roundw
          case rel => exact ⟨k + 1, by omega, by go_num, ⟨by rw [hn.out, hR.out]; exact HW5.out⟩⟩
          case measure => simp [intOf]; omega
        | false =>
          have hR := Aside0.mk (show textK size L k ++ rowT k ⟨u, a, l, false⟩ = textK size L k ++ spK [(k : Int), u, a, l] 4 ++ [10] by simp [rowT, h1])
          go_wp2_with (first | (go_at_call 30; go_loud (with_reducible refine (line_calls HQ2.out.self HLA.out HB4.out _ H4k.out HG2.out HNE.out 4 rfl (by decide) HN1.out).mono ?_); rintro e w3 ⟨rfl, h3⟩; have hcl := cell_blk (i := 3) (h3.heap (blk_alloc HC1.out _) HNE2.out (by decide)) rfl; have HW3 := Aside0.mk (HQ2.out.step h3); clear h3) | (go_at_call 31; go_loud (with_reducible refine (wb_calls HW3.out 10 10 rfl HN4.out).mono ?_); rintro e w5 ⟨rfl, h5⟩; have HW5 := Aside0.mk h5; clear h5))
          go_roundw
          case rel => exact ⟨k + 1, by omega, by go_num, ⟨by rw [hn.out, hR.out]; exact HW5.out⟩⟩
          case measure => simp [intOf]; omega
    · obtain rfl : k = m := by omega
      have j1 : ¬ (k : Int) < (k : Int) := by omega
      go_wp2_with (go_at_call 34; go_loud (with_reducible refine (str_calls HW.out).mono ?_); rintro e w9 ⟨rfl, h9⟩; have HW9 := Aside0.mk h9; clear h9)
      go_ret
      exact ⟨by rw [HR.out]; rfl, HW9.out.2.1⟩
end Go.Proofs.YtlpnggaeepjjfaaGreatDoor.Bo

namespace Go.Proofs.YtlpnggaeepjjfaaGreatDoor.Bo
open Go.RowKit Go.Sort Go.Proofs.YtlpnggaeepjjfaaGreatDoorW.PrintWords Go.Proofs.YtlpnggaeepjjfaaGreatDoorW.PrintLast
set_option linter.unusedVariables false
set_option linter.unusedSimpArgs false
def bs (l : List UInt8) : ByteArray := ⟨l.toArray⟩
theorem bs_app (a b : List UInt8) : bs a ++ bs b = bs (a ++ b) := by
  unfold bs
  apply ByteArray.ext
  simp
theorem bs_size (a : List UInt8) : (bs a).size = a.length := List.size_toArray ..
theorem bun {w w' : World} (h : Below w.drew.heap.size w.drew w') : Below w.heap.size w w' := ⟨h.os, h.tape, h.output, h.size, h.block⟩
theorem btr {w w1 w2 : World} (h : Below w.heap.size w w1) (k : Below w1.heap.size w1 w2) : Below w.heap.size w w2 :=
  ⟨k.os.trans h.os, k.tape.trans h.tape, k.output.trans h.output, Nat.le_trans h.size k.size, fun j hj => (k.block j (Nat.lt_of_lt_of_le hj h.size)).trans (h.block j hj)⟩
def One (w : World) (n : Int) (e : Ending) (w' : World) : Prop := e = .returned (.string (bs (Lib.itoa n))) ∧ Below w.heap.size w w'
section
variable {w : World} {b q : Nat} {size : Int} {L : List Rw}
set_option maxRecDepth 100000 in
set_option maxHeartbeats 4000000 in
theorem rtext_calls (hnum : ∀ (n : Int), 0 ≤ n → n ≤ 9223372036854775807 → ∀ w, Calls Tryz.prog 71 #[.int .i64 n] w (One w n)) (S : Bk 88 89 w b q size L) (hO : Ok size L) :
    Calls Tryz.prog 56 #[.pointer (some ⟨b, 0, none⟩)] w fun e w' => e = .returned (.string (textR size L)) ∧ Below w.heap.size w w' := by
  have HS := Aside0.mk S
  have HO := Aside0.mk hO
  have HNm := Aside0.mk hnum
  have hl := hO.len
  have hlo := hO.lo
  have hhi := hO.hi
  have HT := Aside0.mk (text_len hO)
  have H0 := Aside0.mk (show textK size L 0 = spK [(L.length : Int), size] 2 ++ [10] from rfl)
  have HR := Aside0.mk (show textR size L = bs (textK size L L.length) from rfl)
  obtain ⟨m, hm⟩ : ∃ m, L.length = m := ⟨_, rfl⟩
  have HBk := Aside0.mk (show ∀ W', Below w.heap.size w W' → W'.cell? ⟨b, 0, none⟩ = some (.int .i64 size) ∧ W'.cell? ⟨b, 1, none⟩ = some (.slice (some ⟨q, 0, none⟩) m m) by
    intro W' hb
    have h := (S.on hb).book
    rw [hm] at h
    exact h)
  have H4 := Aside0.mk (fun (k : Nat) (hk : k < L.length) => four_ok (i := k) (by have := hO.len; omega) hO.hi (hO.rows _ (getD_mem hk)))
  rw [hm] at hl H0 HR
  have HM := Aside0.mk hm
  have HA := Aside0.mk (hnum (m : Int) (by omega) (by omega))
  have HB := Aside0.mk (hnum size (by omega) (by omega))
  have la := itoa_len (m : Int) (by omega) (by omega)
  have lb := itoa_len size (by omega) (by omega)
  have H0a := Aside0.mk (show bs (Lib.itoa (m : Int)) ++ (⟨#[32]⟩ : ByteArray) ++ bs (Lib.itoa size) ++ (⟨#[10]⟩ : ByteArray) = bs (textK size L 0) by
    rw [show (⟨#[32]⟩ : ByteArray) = bs [32] from rfl, show (⟨#[10]⟩ : ByteArray) = bs [10] from rfl, bs_app, bs_app, bs_app, H0.out]
    simp [spK])
  rw [← bs_size] at la lb
  obtain ⟨da, hda⟩ : ∃ d, bs (Lib.itoa (m : Int)) = d := ⟨_, rfl⟩
  obtain ⟨db, hdb⟩ : ∃ d, bs (Lib.itoa size) = d := ⟨_, rfl⟩
  unfold One at HA HB
  rw [hda] at la H0a HA
  rw [hdb] at lb H0a HB
  clear S hO hm hlo hhi hnum hda hdb
  obtain ⟨c0, c1⟩ := HBk.out _ (Below.refl _ _)
  have q1 : ¬ 9223372036854775807 < da.size + 1 := by omega
  have q2 : ¬ 9223372036854775807 < da.size + 1 + db.size := by omega
  have q3 : ¬ 9223372036854775807 < da.size + 1 + db.size + 1 := by omega
  clear la lb
  go_enter Tryz.func56, Tryz.ntmps56
  go_wp2
  go_region_held3 (fun W => W.cell? ⟨b, 0, none⟩ = some (.int .i64 size) ∧ W.cell? ⟨b, 1, none⟩ = some (.slice (some ⟨q, 0, none⟩) m m)) ((first | go_keep | assumption | exact HBk.out _ HW2.out | exact HBk.out _ HW1.out)) ((first | (go_at_call 71; go_loud (with_reducible refine (HA.out _).mono ?_); rintro e w1 ⟨rfl, h1⟩; have HW1 := Aside0.mk (bun h1); clear h1) | (go_at_call 71; go_loud (with_reducible refine (HB.out _).mono ?_); rintro e w2 ⟨rfl, h2⟩; have HW2 := Aside0.mk (btr HW1.out h2); clear h2)))
  clear c0 c1 q1 q2 q3
  rw [H0a.out]
  clear H0a HA HB
  go_wp2
  go_loopw [3, 4] (fun st i wr => ∃ (s : ByteArray) (k : Nat), k ≤ m ∧ st = .string s ∧ i = .int .i64 k ∧ Aside0 (s = bs (textK size L k)) ∧ Aside0 (Below w.heap.size w wr)) (fun _ i _ => m - (intOf i).toNat)
  case atStart => exact ⟨_, 0, by omega, rfl, rfl, ⟨rfl⟩, HW2⟩
  case round =>
    obtain ⟨s, k, hk, rfl, rfl, HK, HW⟩ := hrel
    obtain ⟨d0, d1⟩ := HBk.out _ HW.out
    by_cases hlt : k < m
    · have hkl : k < L.length := by rw [HM.out]; exact hlt
      have hlen := HT.out k (by omega)
      have H4k := H4.out k hkl
      obtain ⟨⟨u, a, l, c⟩, hx⟩ : ∃ x, L.getD k zRw = x := ⟨_, rfl⟩
      obtain ⟨r0, r1, r2, r3⟩ := (HS.out.on HW.out).row (getD_some hkl)
      have hn := Aside0.mk (show textK size L (k + 1) = textK size L k ++ rowT k ⟨u, a, l, c⟩ by rw [textK, hx])
      rw [hx] at r0 r1 r2 r3 H4k
      dsimp only at r0 r1 r2 r3 H4k
      have j1 : (k : Int) < (m : Int) := by omega
      have j2 : (0 : Int) ≤ (k : Int) := by omega
      clear hx hkl
      by_cases h1 : u = 0
      · subst h1
        clear hlen H4k
        go_wp2
        go_roundw
        case rel => exact ⟨_, k + 1, by omega, rfl, by go_num, ⟨by rw [hn.out, HK.out]; simp [rowT]⟩, ⟨below_alloc HW.out _⟩⟩
        case measure => simp [intOf]; omega
      · have h2 : (u == 0) = false := beq_eq_false_iff_ne.2 h1
        obtain ⟨k0, k1⟩ := H4k (k : Int) (by simp)
        obtain ⟨u0, u1⟩ := H4k u (by simp)
        obtain ⟨a0, a1⟩ := H4k a (by simp)
        obtain ⟨l0, l1⟩ := H4k l (by simp)
        have lk := itoa_len (k : Int) k0 k1
        have lu := itoa_len u u0 u1
        have la := itoa_len a a0 a1
        have ll := itoa_len l l0 l1
        have HK' := HNm.out (k : Int) k0 k1
        have HU' := HNm.out u u0 u1
        have HA' := HNm.out a a0 a1
        have HL' := HNm.out l l0 l1
        rw [← bs_size] at lk lu la ll hlen
        unfold One at HK' HU' HA' HL'
        have hs := HK.out.symm
        obtain ⟨dk, hdk⟩ : ∃ d, bs (Lib.itoa (k : Int)) = d := ⟨_, rfl⟩
        obtain ⟨du, hdu⟩ : ∃ d, bs (Lib.itoa u) = d := ⟨_, rfl⟩
        obtain ⟨da', hda⟩ : ∃ d, bs (Lib.itoa a) = d := ⟨_, rfl⟩
        obtain ⟨dl, hdl⟩ : ∃ d, bs (Lib.itoa l) = d := ⟨_, rfl⟩
        rw [hdk] at lk HK'
        rw [hdu] at lu HU'
        rw [hda] at la HA'
        rw [hdl] at ll HL'
        rw [hs] at hlen
        have HK := Aside0.mk HK'
        have HU := Aside0.mk HU'
        have HA := Aside0.mk HA'
        have HL := Aside0.mk HL'
        have HB4 := Aside0.mk (show ∀ W', Below (wr.alloc (.cells #[.int .i64 u, .int .i64 a, .int .i64 l, .bool c] 89)).heap.size (wr.alloc (.cells #[.int .i64 u, .int .i64 a, .int .i64 l, .bool c] 89)) W' → Below wr.heap.size wr W' from fun W' h => btr (below_alloc (Below.refl _ _) _) h)
        have HC3 := Aside0.mk (show ∀ W', Below (wr.alloc (.cells #[.int .i64 u, .int .i64 a, .int .i64 l, .bool c] 89)).heap.size (wr.alloc (.cells #[.int .i64 u, .int .i64 a, .int .i64 l, .bool c] 89)) W' → W'.cell? ⟨wr.heap.size, 0, none⟩ = some (.int .i64 u) ∧ W'.cell? ⟨wr.heap.size, 1, none⟩ = some (.int .i64 a) ∧ W'.cell? ⟨wr.heap.size, 2, none⟩ = some (.int .i64 l) ∧ W'.cell? ⟨wr.heap.size, 3, none⟩ = some (.bool c) from fun W' h => by
          have hb := blk_below (blk_new wr (.cells #[.int .i64 u, .int .i64 a, .int .i64 l, .bool c] 89)) h
          exact ⟨cell_blk hb rfl, cell_blk hb rfl, cell_blk hb rfl, cell_blk hb rfl⟩)
        have HC := Aside0.mk (fun W' h => (⟨(HC3.out W' h).1, (HC3.out W' h).2.1, (HC3.out W' h).2.2.1⟩ : W'.cell? ⟨wr.heap.size, 0, none⟩ = some (.int .i64 u) ∧ W'.cell? ⟨wr.heap.size, 1, none⟩ = some (.int .i64 a) ∧ W'.cell? ⟨wr.heap.size, 2, none⟩ = some (.int .i64 l)))
        clear HK' HU' HA' HL' H4k k0 k1 u0 u1 a0 a1 l0 l1
        cases c with
        | true =>
          have q0 : ¬ 9223372036854775807 < s.size + dk.size := by omega
          have q1 : ¬ 9223372036854775807 < s.size + dk.size + 1 := by omega
          have q2 : ¬ 9223372036854775807 < s.size + dk.size + 1 + du.size := by omega
          have q3 : ¬ 9223372036854775807 < s.size + dk.size + 1 + du.size + 1 := by omega
          have q4 : ¬ 9223372036854775807 < s.size + dk.size + 1 + du.size + 1 + da'.size := by omega
          have q5 : ¬ 9223372036854775807 < s.size + dk.size + 1 + du.size + 1 + da'.size + 1 := by omega
          have q6 : ¬ 9223372036854775807 < s.size + dk.size + 1 + du.size + 1 + da'.size + 1 + dl.size := by omega
          have q7 : ¬ 9223372036854775807 < s.size + dk.size + 1 + du.size + 1 + da'.size + 1 + dl.size + 7 := by omega
          have q8 : ¬ 9223372036854775807 < s.size + dk.size + 1 + du.size + 1 + da'.size + 1 + dl.size + 7 + 1 := by omega
          have hR := Aside0.mk (show s ++ dk ++ (⟨#[32]⟩ : ByteArray) ++ du ++ (⟨#[32]⟩ : ByteArray) ++ da' ++ (⟨#[32]⟩ : ByteArray) ++ dl ++ (⟨#[32, 99, 108, 111, 115, 101, 100]⟩ : ByteArray) ++ (⟨#[10]⟩ : ByteArray) = bs (textK size L (k + 1)) by
            rw [← hs, ← hdk, ← hdu, ← hda, ← hdl, show (⟨#[32]⟩ : ByteArray) = bs [32] from rfl, show (⟨#[10]⟩ : ByteArray) = bs [10] from rfl, hn.out]
            simp only [show (⟨#[32, 99, 108, 111, 115, 101, 100]⟩ : ByteArray) = bs closedB from rfl, bs_app]
            congr 1
            simp [rowT, h1, spK, closedB])
          clear lk lu la ll hlen hs hdk hdu hda hdl
          go_wp2
          go_region_held3 (fun W => W.cell? ⟨wr.heap.size, 0, none⟩ = some (.int .i64 u) ∧ W.cell? ⟨wr.heap.size, 1, none⟩ = some (.int .i64 a) ∧ W.cell? ⟨wr.heap.size, 2, none⟩ = some (.int .i64 l)) ((first | go_keep | exact HC.out _ (Below.refl _ _) | exact HC.out _ HW4.out | exact HC.out _ HW3.out | exact HC.out _ HW2.out | exact HC.out _ HW1.out)) ((first | (go_at_call 71; (with_reducible refine (HK.out _).mono ?_); rintro e w1 ⟨rfl, h1⟩; have HW1 := Aside0.mk (bun h1); clear h1) | (go_at_call 71; (with_reducible refine (HU.out _).mono ?_); rintro e w2 ⟨rfl, h2⟩; have HW2 := Aside0.mk (btr HW1.out h2); clear h2) | (go_at_call 71; (with_reducible refine (HA.out _).mono ?_); rintro e w3 ⟨rfl, h3⟩; have HW3 := Aside0.mk (btr HW2.out h3); clear h3) | (go_at_call 71; (with_reducible refine (HL.out _).mono ?_); rintro e w4 ⟨rfl, h4⟩; have HW4 := Aside0.mk (btr HW3.out h4); clear h4)))
          obtain ⟨x0, x1, x2, x3⟩ := HC3.out _ HW4.out
          go_wp2
          go_roundw
          case rel => exact ⟨_, k + 1, by omega, rfl, by go_num, ⟨hR.out⟩, ⟨btr HW.out (HB4.out _ HW4.out)⟩⟩
          case measure => simp [intOf]; omega
        | false =>
          have q0 : ¬ 9223372036854775807 < s.size + dk.size := by omega
          have q1 : ¬ 9223372036854775807 < s.size + dk.size + 1 := by omega
          have q2 : ¬ 9223372036854775807 < s.size + dk.size + 1 + du.size := by omega
          have q3 : ¬ 9223372036854775807 < s.size + dk.size + 1 + du.size + 1 := by omega
          have q4 : ¬ 9223372036854775807 < s.size + dk.size + 1 + du.size + 1 + da'.size := by omega
          have q5 : ¬ 9223372036854775807 < s.size + dk.size + 1 + du.size + 1 + da'.size + 1 := by omega
          have q6 : ¬ 9223372036854775807 < s.size + dk.size + 1 + du.size + 1 + da'.size + 1 + dl.size := by omega
          have q7 : ¬ 9223372036854775807 < s.size + dk.size + 1 + du.size + 1 + da'.size + 1 + dl.size + 1 := by omega
          have hR := Aside0.mk (show s ++ dk ++ (⟨#[32]⟩ : ByteArray) ++ du ++ (⟨#[32]⟩ : ByteArray) ++ da' ++ (⟨#[32]⟩ : ByteArray) ++ dl ++ (⟨#[10]⟩ : ByteArray) = bs (textK size L (k + 1)) by
            rw [← hs, ← hdk, ← hdu, ← hda, ← hdl, show (⟨#[32]⟩ : ByteArray) = bs [32] from rfl, show (⟨#[10]⟩ : ByteArray) = bs [10] from rfl, hn.out]
            simp only [bs_app]
            congr 1
            simp [rowT, h1, spK])
          clear lk lu la ll hlen hs hdk hdu hda hdl
          go_wp2
          go_region_held3 (fun W => W.cell? ⟨wr.heap.size, 0, none⟩ = some (.int .i64 u) ∧ W.cell? ⟨wr.heap.size, 1, none⟩ = some (.int .i64 a) ∧ W.cell? ⟨wr.heap.size, 2, none⟩ = some (.int .i64 l)) ((first | go_keep | exact HC.out _ (Below.refl _ _) | exact HC.out _ HW4.out | exact HC.out _ HW3.out | exact HC.out _ HW2.out | exact HC.out _ HW1.out)) ((first | (go_at_call 71; (with_reducible refine (HK.out _).mono ?_); rintro e w1 ⟨rfl, h1⟩; have HW1 := Aside0.mk (bun h1); clear h1) | (go_at_call 71; (with_reducible refine (HU.out _).mono ?_); rintro e w2 ⟨rfl, h2⟩; have HW2 := Aside0.mk (btr HW1.out h2); clear h2) | (go_at_call 71; (with_reducible refine (HA.out _).mono ?_); rintro e w3 ⟨rfl, h3⟩; have HW3 := Aside0.mk (btr HW2.out h3); clear h3) | (go_at_call 71; (with_reducible refine (HL.out _).mono ?_); rintro e w4 ⟨rfl, h4⟩; have HW4 := Aside0.mk (btr HW3.out h4); clear h4)))
          obtain ⟨x0, x1, x2, x3⟩ := HC3.out _ HW4.out
          go_wp2
          go_roundw
          case rel => exact ⟨_, k + 1, by omega, rfl, by go_num, ⟨hR.out⟩, ⟨btr HW.out (HB4.out _ HW4.out)⟩⟩
          case measure => simp [intOf]; omega
    · obtain rfl : k = m := by omega
      have j1 : ¬ (k : Int) < (k : Int) := by omega
      go_wp2
      go_ret
      exact ⟨by rw [HR.out, HK.out]; rfl, HW.out⟩
end
end Go.Proofs.YtlpnggaeepjjfaaGreatDoor.Bo

namespace Go.Proofs.YtlpnggaeepjjfaaGreatDoor.Bo
open Go.RowKit Go.Proofs.YtlpnggaeepjjfaaGreatDoor.Cut
set_option linter.unusedVariables false
set_option linter.unusedSimpArgs false
theorem dig_mem : ∀ (k u : Nat), u < 10 ^ (k + 1) → ∀ c ∈ Lib.decDigits u, 48 ≤ c.toNat ∧ c.toNat ≤ 57 := by
  have hone : ∀ d : Nat, d < 10 → (UInt8.ofNat (48 + d)).toNat = 48 + d := fun d hd => by rw [UInt8.toNat_ofNat_of_lt']; show 48 + d < 256; omega
  intro k
  induction k with
  | zero =>
    intro u hu c hc
    rw [Lib.decDigits, dif_pos (by omega)] at hc
    rw [List.mem_singleton] at hc
    subst hc
    rw [hone u (by omega)]
    omega
  | succ k ih =>
    intro u hu c hc
    rw [Lib.decDigits] at hc
    split at hc
    · rw [List.mem_singleton] at hc
      subst hc
      rw [hone u (by omega)]
      omega
    · rcases List.mem_append.1 hc with hc | hc
      · exact ih (u / 10) (by rw [Nat.pow_succ] at hu; omega) c hc
      · rw [List.mem_singleton] at hc
        subst hc
        rw [hone _ (Nat.mod_lt _ (by decide))]
        omega
theorem dec_ne : ∀ u : Nat, Lib.decDigits u ≠ [] := by
  intro u
  rw [Lib.decDigits]
  split <;> simp
theorem parse_app : ∀ (a b : List UInt8) (acc : Nat), Lib.parseUint10 acc (a ++ b) = match Lib.parseUint10 acc a with
    | .ok v => Lib.parseUint10 v b
    | x => x
  | [], b, acc => rfl
  | c :: a, b, acc => by
    rw [List.cons_append, Lib.parseUint10, Lib.parseUint10]
    split
    · split
      · rfl
      · split
        · rfl
        · exact parse_app a b _
    · rfl
theorem parse_one (acc d : Nat) (hd : d < 10) (ha : acc < 1000000000000000000) : Lib.parseUint10 acc [UInt8.ofNat (48 + d)] = .ok (acc * 10 + d) := by
  have hone : (UInt8.ofNat (48 + d)).toNat = 48 + d := by rw [UInt8.toNat_ofNat_of_lt']; show 48 + d < 256; omega
  rw [Lib.parseUint10, hone, if_pos (by omega), if_neg (by omega), if_neg (by omega), Lib.parseUint10]
  congr 1
  omega
theorem parse_dec : ∀ (k u : Nat), u < 10 ^ (k + 1) → k ≤ 17 → Lib.parseUint10 0 (Lib.decDigits u) = .ok u := by
  intro k
  induction k with
  | zero =>
    intro u hu _
    rw [Lib.decDigits, dif_pos (by omega), parse_one 0 u (by omega) (by omega)]
    congr 1
    omega
  | succ k ih =>
    intro u hu hk
    have h18 : 10 ^ (k + 1) ≤ 10 ^ 18 := Nat.pow_le_pow_right (by decide) (by omega)
    have e18 : (10 : Nat) ^ 18 = 1000000000000000000 := by decide
    rw [Nat.pow_succ] at hu
    rw [Lib.decDigits]
    split
    · rw [parse_one 0 u (by omega) (by omega)]
      congr 1
      omega
    · rw [parse_app, ih (u / 10) (by omega) (by omega)]
      show Lib.parseUint10 (u / 10) [UInt8.ofNat (48 + u % 10)] = _
      rw [parse_one _ _ (Nat.mod_lt _ (by decide)) (by omega)]
      congr 1
      omega
theorem atoi_dec (u : Nat) (h : u < 1000000000000000000) : Lib.atoiAll (Lib.decDigits u) = .ok (u : Int) := by
  have e18 : (10 : Nat) ^ 18 = 1000000000000000000 := by decide
  have hp := parse_dec 17 u (by omega) (by omega)
  have hm := dig_mem 17 u (by omega)
  have hn := dec_ne u
  generalize Lib.decDigits u = l at *
  cases l with
  | nil => exact absurd rfl hn
  | cons c r =>
    have hc := hm c (List.mem_cons_self ..)
    unfold Lib.atoiAll
    simp only
    rw [if_neg (by omega)]
    unfold Lib.parseMag
    rw [if_neg hn, hp]
    simp only
    rw [if_neg (by omega), if_neg (by omega), if_neg (by omega)]
theorem itoa_dec (n : Int) (h0 : 0 ≤ n) : Lib.itoa n = Lib.decDigits n.toNat := by
  obtain ⟨u, rfl⟩ := Int.eq_ofNat_of_zero_le h0
  exact Lib.itoa_nonneg u
def Sml (n : Int) : Prop := 0 ≤ n ∧ n ≤ 16777216
theorem itoa_mem {n : Int} (h : Sml n) : ∀ c ∈ Lib.itoa n, 48 ≤ c.toNat ∧ c.toNat ≤ 57 := by
  have h1 := h.1; have h2 := h.2
  rw [itoa_dec n h.1]
  exact dig_mem 7 _ (by omega)
theorem itoa_ne {n : Int} (h : Sml n) : Lib.itoa n ≠ [] := by
  rw [itoa_dec n h.1]
  exact dec_ne _
theorem itoa_lenS {n : Int} (h : Sml n) : (Lib.itoa n).length ≤ 8 := by
  have h1 := h.1; have h2 := h.2
  rw [itoa_dec n h.1]
  exact dec_len 7 _ (by omega)
theorem atoi_itoa {n : Int} (h : Sml n) : Lib.atoiAll (Lib.itoa n) = .ok n := by
  have h1 := h.1; have h2 := h.2
  rw [itoa_dec n h.1, atoi_dec _ (by omega)]
  congr 1
  omega
theorem byte_ne {c : UInt8} (h : 48 ≤ c.toNat ∧ c.toNat ≤ 57) (d : UInt8) (hd : d.toNat < 48 ∨ 57 < d.toNat) : c ≠ d := by
  intro e
  subst e
  omega
/-- The pieces between the bytes c. -/
def cutC (c : UInt8) : List UInt8 → List (List UInt8)
  | [] => [[]]
  | b :: r => if b == c then [] :: cutC c r else match cutC c r with
    | [] => [[b]]
    | h :: t => (b :: h) :: t
theorem cutL_C : ∀ l, cutL l = cutC 32 l
  | [] => rfl
  | b :: r => by unfold cutL cutC; rw [cutL_C r]; rfl
theorem cutC_none (c : UInt8) : ∀ l : List UInt8, (∀ b ∈ l, b ≠ c) → cutC c l = [l]
  | [], _ => rfl
  | b :: r, h => by
    unfold cutC
    rw [if_neg (by simpa using h b (List.mem_cons_self ..)), cutC_none c r fun x hx => h x (List.mem_cons_of_mem _ hx)]
theorem cutC_app (c : UInt8) : ∀ (a r : List UInt8), (∀ b ∈ a, b ≠ c) → cutC c (a ++ c :: r) = a :: cutC c r
  | [], r, _ => by
    show cutC c (c :: r) = _
    conv => lhs; unfold cutC
    rw [if_pos (by simp)]
  | b :: a, r, h => by
    show cutC c (b :: (a ++ c :: r)) = _
    conv => lhs; unfold cutC
    rw [if_neg (by simpa using h b (List.mem_cons_self ..)), cutC_app c a r fun x hx => h x (List.mem_cons_of_mem _ hx)]
theorem cutC_noneI (c : UInt8) : ∀ l, Lib.indexByte l c = -1 → cutC c l = [l] := fun l h => cutC_none c l fun b hb e => by
  obtain ⟨k, hk, rfl⟩ := List.getElem_of_mem hb
  exact Lib.indexByte_none h k (by rw [List.getElem?_eq_getElem hk, e])
theorem cutC_someI (c : UInt8) (l : List UInt8) (k : Nat) (h : Lib.indexByte l c = (k : Int)) : k < l.length ∧ cutC c l = l.take k :: cutC c (l.drop (k + 1)) := by
  obtain ⟨h1, h2⟩ := Lib.indexByte_some h
  obtain ⟨hk, he⟩ := List.getElem?_eq_some_iff.1 h1
  refine ⟨hk, ?_⟩
  have e : l = l.take k ++ c :: l.drop (k + 1) := by
    conv => lhs; rw [← List.take_append_drop k l, List.drop_eq_getElem_cons hk, he]
  conv => lhs; rw [e]
  refine cutC_app c _ _ fun b hb eb => ?_
  obtain ⟨j, hj, rfl⟩ := List.getElem_of_mem hb
  rw [List.length_take] at hj
  rw [List.getElem_take] at eb
  exact h2 j (by omega) (by rw [List.getElem?_eq_getElem (by omega), eb])
theorem splitB_C (c : UInt8) : ∀ (k : Nat) (s : ByteArray), Lib.countB s ⟨#[c]⟩ = k → Lib.splitB ⟨#[c]⟩ 0 k s = (cutC c s.data.toList).map mkB := by
  have hone : ∀ s : ByteArray, Lib.indexB s ⟨#[c]⟩ = Lib.indexByte s.data.toList c := fun s => Lib.index_one _ _
  intro k
  induction k with
  | zero =>
    intro s h
    rcases Lib.indexB_cases s ⟨#[c]⟩ with hm | ⟨i, hi, _⟩
    · rw [Lib.splitB_zero, cutC_noneI c _ (by rw [← hone]; exact hm)]
      rfl
    · have := Lib.countB_hit s ⟨#[c]⟩ i (Nat.le_refl 1) hi
      omega
  | succ k ih =>
    intro s h
    rcases Lib.indexB_cases s ⟨#[c]⟩ with hm | ⟨i, hi, _⟩
    · have := Lib.countB_miss s ⟨#[c]⟩ hm
      omega
    · have hc := Lib.countB_hit s ⟨#[c]⟩ i (Nat.le_refl 1) hi
      rw [Lib.splitB_hit _ _ _ _ i hi, ih _ (by omega)]
      obtain ⟨h1, h2⟩ := cutC_someI c s.data.toList i (by rw [← hone]; exact hi)
      have hs : s.data.toList.length = s.size := by rw [Array.length_toList]; rfl
      rw [h2, List.map_cons]
      congr 1
      · apply ByteArray.ext
        apply Array.ext'
        simp [mkB]
      · congr 2
        rw [show (⟨#[c]⟩ : ByteArray).size = 1 from rfl]
        exact Lib.extract_to_end s (i + 1)
theorem pieces_bs (l : List UInt8) : pieces (bs l) = (cutC 32 l).map mkB := by
  unfold pieces
  rw [cutL_C]
  rfl
theorem no32 {n : Int} (h : Sml n) : ∀ c ∈ Lib.itoa n, c ≠ 32 := fun c hc => byte_ne (itoa_mem h c hc) 32 (by decide)
theorem no10 {n : Int} (h : Sml n) : ∀ c ∈ Lib.itoa n, c ≠ 10 := fun c hc => byte_ne (itoa_mem h c hc) 10 (by decide)
def sp2 (a b : Int) : List UInt8 := Lib.itoa a ++ 32 :: Lib.itoa b
def sp4 (a b c d : Int) : List UInt8 := Lib.itoa a ++ 32 :: (Lib.itoa b ++ 32 :: (Lib.itoa c ++ 32 :: Lib.itoa d))
theorem spK_2 (a b : Int) : spK [a, b] 2 = sp2 a b := by simp [spK, sp2]
theorem spK_4 (a b c d : Int) : spK [a, b, c, d] 4 = sp4 a b c d := by simp [spK, sp4]
theorem nums_mk (ls : List (List UInt8)) (xs : List Int) (h : ls = xs.map Lib.itoa) (hx : ∀ x ∈ xs, Sml x) : nums (ls.map mkB) = some xs := by
  subst h
  induction xs with
  | nil => rfl
  | cons x xs ih =>
    rw [List.map_cons, List.map_cons]
    unfold nums
    have : (mkB (Lib.itoa x)).data.toList = Lib.itoa x := rfl
    rw [this, atoi_itoa (hx x (List.mem_cons_self ..)), ih fun y hy => hx y (List.mem_cons_of_mem _ hy)]
    rfl
theorem numR_2 {a b : Int} (ha : Sml a) (hb : Sml b) : numR (bs (sp2 a b)) 2 = ([a, b], true) := by
  unfold numR
  rw [pieces_bs, sp2, cutC_app 32 _ _ (no32 ha), cutC_none 32 _ (no32 hb), nums_mk [Lib.itoa a, Lib.itoa b] [a, b] rfl (by simp [ha, hb])]
  rfl
theorem numR_4 {a b c d : Int} (ha : Sml a) (hb : Sml b) (hc : Sml c) (hd : Sml d) : numR (bs (sp4 a b c d)) 4 = ([a, b, c, d], true) := by
  unfold numR
  rw [pieces_bs, sp4, cutC_app 32 _ _ (no32 ha), cutC_app 32 _ _ (no32 hb), cutC_app 32 _ _ (no32 hc), cutC_none 32 _ (no32 hd), nums_mk [Lib.itoa a, Lib.itoa b, Lib.itoa c, Lib.itoa d] [a, b, c, d] rfl (by simp [ha, hb, hc, hd])]
  rfl
theorem sp2_no10 {a b : Int} (ha : Sml a) (hb : Sml b) : ∀ c ∈ sp2 a b, c ≠ 10 := by
  intro c h
  unfold sp2 at h
  simp only [List.mem_append, List.mem_cons] at h
  rcases h with h | rfl | h
  · exact no10 ha c h
  · decide
  · exact no10 hb c h
theorem sp4_no10 {a b c d : Int} (ha : Sml a) (hb : Sml b) (hc : Sml c) (hd : Sml d) : ∀ x ∈ sp4 a b c d, x ≠ 10 := by
  intro x h
  unfold sp4 at h
  simp only [List.mem_append, List.mem_cons] at h
  rcases h with h | rfl | h | rfl | h | rfl | h
  · exact no10 ha x h
  · decide
  · exact no10 hb x h
  · decide
  · exact no10 hc x h
  · decide
  · exact no10 hd x h
/-- The line of a row. -/
def lineT (i : Nat) (x : Rw) : List UInt8 := sp4 (i : Int) x.use x.used x.live ++ if x.closed = true then closedB else []
def linesK (L : List Rw) : Nat → List (List UInt8)
  | 0 => []
  | k + 1 => linesK L k ++ if (L.getD k zRw).use = 0 then [] else [lineT k (L.getD k zRw)]
theorem rowT_line (i : Nat) (x : Rw) : rowT i x = if x.use = 0 then [] else lineT i x ++ [10] := by
  unfold rowT lineT
  rw [spK_4]
/-- Lines, each ended. -/
def endl (ls : List (List UInt8)) : List UInt8 := ls.flatMap fun l => l ++ [10]
theorem textK_lines (size : Int) (L : List Rw) (k : Nat) : textK size L k = endl (sp2 (L.length : Int) size :: linesK L k) := by
  induction k with
  | zero =>
    rw [textK, spK_2]
    simp [endl, linesK]
  | succ k ih =>
    rw [textK, ih, rowT_line, linesK]
    split <;> simp [endl]
theorem cut_endl : ∀ ls : List (List UInt8), (∀ l ∈ ls, ∀ c ∈ l, c ≠ 10) → cutC 10 (endl ls) = ls ++ [[]]
  | [], _ => rfl
  | l :: ls, h => by
    have e : endl (l :: ls) = l ++ 10 :: endl ls := by simp [endl]
    rw [e, cutC_app 10 _ _ (h l (List.mem_cons_self ..)), cut_endl ls fun m hm => h m (List.mem_cons_of_mem _ hm)]
    rfl
theorem line_no10 {i : Nat} {x : Rw} (hi : Sml (i : Int)) (h1 : Sml x.use) (h2 : Sml x.used) (h3 : Sml x.live) : ∀ c ∈ lineT i x, c ≠ 10 := by
  intro c h
  rcases List.mem_append.1 h with h | h
  · exact sp4_no10 hi h1 h2 h3 c h
  · split at h
    · have hd : ∀ c ∈ closedB, c ≠ 10 := by decide
      exact hd c h
    · simp at h
theorem row_sml {size : Int} {L : List Rw} (hO : Ok size L) {i : Nat} (hi : i < L.length) : Sml (i : Int) ∧ Sml (L.getD i zRw).use ∧ Sml (L.getD i zRw).used ∧ Sml (L.getD i zRw).live := by
  have h1 := hO.rows _ (getD_mem hi)
  have h2 := hO.lo; have h3 := hO.hi; have h4 := hO.len
  unfold Sml
  omega
theorem lines_no10 {size : Int} {L : List Rw} (hO : Ok size L) : ∀ k, k ≤ L.length → ∀ l ∈ linesK L k, ∀ c ∈ l, c ≠ 10 := by
  intro k
  induction k with
  | zero => intro _ l hl; simp [linesK] at hl
  | succ k ih =>
    intro hk l hl
    rw [linesK] at hl
    rcases List.mem_append.1 hl with hl | hl
    · exact ih (by omega) l hl
    · split at hl
      · simp at hl
      · rw [List.mem_singleton] at hl
        subst hl
        obtain ⟨h1, h2, h3, h4⟩ := row_sml hO (i := k) (by omega)
        exact line_no10 h1 h2 h3 h4
end Go.Proofs.YtlpnggaeepjjfaaGreatDoor.Bo

namespace Go.Proofs.YtlpnggaeepjjfaaGreatDoor.Bo
open Go.RowKit Go.Sort Go.Proofs.YtlpnggaeepjjfaaGreatDoorW.PrintWords Go.Proofs.YtlpnggaeepjjfaaGreatDoorW.PrintLast
set_option linter.unusedVariables false
set_option linter.unusedSimpArgs false
theorem digit (u : Nat) : strOfNums [(wrap64 (48 + Int.tmod (u : Int) 10)) % 256] = bs [UInt8.ofNat (48 + u % 10)] := by
  have h : Int.tmod (u : Int) 10 = ((u % 10 : Nat) : Int) := rfl
  have h2 : u % 10 < 10 := Nat.mod_lt _ (by decide)
  rw [h]
  generalize u % 10 = d at *
  have h3 : wrap64 (48 + (d : Int)) = 48 + d := by unfold wrap64; omega
  rw [h3, show ((48 + (d : Int)) % 256) = ((48 + d : Nat) : Int) by omega]
  rfl
theorem dec_j (k u : Nat) (hu : u < 9223372036854775808) (t : List UInt8) (ht : t.length < 100) : Z.pumiceref04_Decimal.j0 (k + 1) (u : Int) (Int.tmod (u : Int) 10) (bs t) = some (bs (t ++ [UInt8.ofNat (48 + u % 10)])) := by
  rw [Z.pumiceref04_Decimal.j0, if_neg (by omega)]
  show (if (bs t).size + (strOfNums [(wrap64 (48 + Int.tmod (u : Int) 10)) % 256]).size ≤ 9223372036854775807 then some (bs t ++ strOfNums [(wrap64 (48 + Int.tmod (u : Int) 10)) % 256]) else none) = _
  rw [digit, bs_size, bs_size, if_pos (by simp; omega), bs_app]
theorem dec_f : ∀ (k u : Nat), u < 10 ^ (k + 1) → u < 9223372036854775808 → k ≤ 60 → ∀ j, Z.pumiceref04_Decimal.f (k + 2 + j) (u : Int) = some (bs (Lib.decDigits u)) := by
  intro k
  induction k with
  | zero =>
    intro u hu _ _ j
    have hd : Int.tdiv (u : Int) 10 = ((u / 10 : Nat) : Int) := rfl
    rw [show 0 + 2 + j = (j + 1) + 1 by omega, Z.pumiceref04_Decimal.f, hd, show u / 10 = 0 by omega, if_pos (by first | rfl | (unfold wrap64; omega)), show (⟨#[]⟩ : ByteArray) = bs [] from rfl, dec_j _ _ (by omega) _ (by simp), Lib.decDigits, dif_pos (by omega), show u % 10 = u by omega]
    rfl
  | succ k ih =>
    intro u hu h63 hk j
    have hd : Int.tdiv (u : Int) 10 = ((u / 10 : Nat) : Int) := rfl
    have hw : wrap64 ((u / 10 : Nat) : Int) = ((u / 10 : Nat) : Int) := by unfold wrap64; omega
    rw [show k + 1 + 2 + j = (k + 2 + j) + 1 by omega, Z.pumiceref04_Decimal.f, hd, hw]
    by_cases h : u < 10
    · rw [show u / 10 = 0 by omega, if_pos (by first | rfl | (unfold wrap64; omega)), show (⟨#[]⟩ : ByteArray) = bs [] from rfl, show k + 2 + j = (k + 1 + j) + 1 by omega, dec_j _ _ (by omega) _ (by simp), Lib.decDigits, dif_pos h, show u % 10 = u by omega]
      rfl
    · rw [if_neg (by omega), ih (u / 10) (by rw [Nat.pow_succ] at hu; omega) (by omega) (by omega) j]
      have hl := dec_len k (u / 10) (by rw [Nat.pow_succ] at hu; omega)
      show Z.pumiceref04_Decimal.j0 (k + 2 + j) (u : Int) (Int.tmod (u : Int) 10) (bs (Lib.decDigits (u / 10))) = _
      rw [show k + 2 + j = (k + 1 + j) + 1 by omega, dec_j _ _ h63 _ (by omega), Lib.decDigits.eq_def u, dif_neg h]
theorem num_f (n : Int) (h0 : 0 ≤ n) (h1 : n ≤ 9223372036854775807) : Z.pumiceref14_num.f 20 n = some (bs (Lib.itoa n)) := by
  obtain ⟨u, rfl⟩ := Int.eq_ofNat_of_zero_le h0
  have h := dec_f 18 u (by omega) (by omega) (by omega) 0
  unfold Z.pumiceref14_num.f
  rw [show (20 : Nat) = 18 + 2 + 0 from rfl, h]
  unfold Lib.itoa
  rw [if_neg (by omega)]
  rfl
theorem num_calls (n : Int) (h0 : 0 ≤ n) (h1 : n ≤ 9223372036854775807) (w : World) : Calls Tryz.prog 71 #[.int .i64 n] w (One w n) :=
  Z.pumiceref14_num.calls 20 n _ w (num_f n h0 h1)
end Go.Proofs.YtlpnggaeepjjfaaGreatDoor.Bo

namespace Go.Proofs
open Go.Shelf
def Tryz.laysSort_ren : Go.Shelf.Ren := ⟨fun | 6 => 38 | 15 => 63 | 14 => 62 | 28 => 82 | 29 => 83 | 20 => 74 | 21 => 75 | 22 => 76 | 23 => 77 | 24 => 78 | 25 => 79 | 26 => 80 | 27 => 81 | 46 => 96 | 47 => 97 | 48 => 98 | 49 => 99 | 50 => 100 | 57 => 115 | n => n, fun | 22 => 33 | 24 => 3 | 25 => 79 | 3 => 3 | 39 => 98 | 0 => 0 | 53 => 115 | 55 => 117 | 4 => 4 | 46 => 109 | 45 => 108 | 50 => 53 | 5 => 5 | 9 => 9 | 66 => 127 | 70 => 131 | 76 => 146 | 77 => 147 | n => n, fun | n => n⟩
theorem Tryz.laysSort : Go.Proofs.SlLaysF.n6 Tryz.prog Tryz.laysSort_ren := {
  mixed := by kernel_rfl
  f6 := ⟨Tryz.f38.name, by decide, Tryz.func38.trans (congrArg some (by kernel_rfl))⟩
  f14 := ⟨Tryz.f62.name, by decide, Tryz.func62.trans (congrArg some (by kernel_rfl))⟩
  f15 := Tryz.func63.trans (congrArg some (by kernel_rfl))
  f20 := ⟨Tryz.f74.name, by decide, Tryz.func74.trans (congrArg some (by kernel_rfl))⟩
  f21 := ⟨Tryz.f75.name, by decide, Tryz.func75.trans (congrArg some (by kernel_rfl))⟩
  f22 := ⟨Tryz.f76.name, by decide, Tryz.func76.trans (congrArg some (by kernel_rfl))⟩
  f23 := ⟨Tryz.f77.name, by decide, Tryz.func77.trans (congrArg some (by kernel_rfl))⟩
  f24 := ⟨Tryz.f78.name, by decide, Tryz.func78.trans (congrArg some (by kernel_rfl))⟩
  f25 := ⟨Tryz.f79.name, by decide, Tryz.func79.trans (congrArg some (by kernel_rfl))⟩
  f26 := ⟨Tryz.f80.name, by decide, Tryz.func80.trans (congrArg some (by kernel_rfl))⟩
  f27 := ⟨Tryz.f81.name, by decide, Tryz.func81.trans (congrArg some (by kernel_rfl))⟩
  f28 := Tryz.func82.trans (congrArg some (by kernel_rfl))
  f29 := Tryz.func83.trans (congrArg some (by kernel_rfl))
  f46 := ⟨Tryz.f96.name, by decide, Tryz.func96.trans (congrArg some (by kernel_rfl))⟩
  f47 := Tryz.func97.trans (congrArg some (by kernel_rfl))
  f48 := Tryz.func98.trans (congrArg some (by kernel_rfl))
  f49 := ⟨Tryz.f99.name, by decide, Tryz.func99.trans (congrArg some (by kernel_rfl))⟩
  f50 := ⟨Tryz.f100.name, by decide, Tryz.func100.trans (congrArg some (by kernel_rfl))⟩
  f57 := ⟨Tryz.f115.name, by decide, Tryz.func115.trans (congrArg some (by kernel_rfl))⟩
  t0 := Tryz.underlying0
  a0 := Tryz.isAgg0
  z0 := Tryz.sizeOf0
  v0 := Tryz.zeroValue0
  t3 := Tryz.underlying3
  a3 := Tryz.isAgg3
  z3 := Tryz.sizeOf3
  v3 := Tryz.zeroValue3
  t4 := Tryz.underlying4
  a4 := Tryz.isAgg4
  z4 := Tryz.sizeOf4
  v4 := Tryz.zeroValue4
  t5 := Tryz.underlying5
  a5 := Tryz.isAgg5
  z5 := Tryz.sizeOf5
  v5 := Tryz.zeroValue5
  t9 := Tryz.underlying9
  a9 := Tryz.isAgg9
  z9 := Tryz.sizeOf9
  v9 := Tryz.zeroValue9
  t22 := Tryz.underlying33
  a22 := Tryz.isAgg33
  z22 := Tryz.sizeOf33
  v22 := Tryz.zeroValue33
  a24 := Tryz.isAgg3
  z24 := Tryz.sizeOf3
  t25 := Tryz.underlying79
  a25 := Tryz.isAgg79
  z25 := Tryz.sizeOf79
  v25 := Tryz.zeroValue79
  t39 := Tryz.underlying98
  a39 := Tryz.isAgg98
  z39 := Tryz.sizeOf98
  v39 := Tryz.zeroValue98
  t45 := Tryz.underlying108
  a45 := Tryz.isAgg108
  z45 := Tryz.sizeOf108
  v45 := Tryz.zeroValue108
  t46 := Tryz.underlying109
  a46 := Tryz.isAgg109
  z46 := Tryz.sizeOf109
  v46 := Tryz.zeroValue109
  t50 := Tryz.underlying53
  a50 := Tryz.isAgg53
  z50 := Tryz.sizeOf53
  v50 := Tryz.zeroValue53
  t53 := Tryz.underlying115
  a53 := Tryz.isAgg115
  z53 := Tryz.sizeOf115
  v53 := Tryz.zeroValue115
  t55 := Tryz.underlying117
  a55 := Tryz.isAgg117
  z55 := Tryz.sizeOf117
  v55 := Tryz.zeroValue117
  t66 := Tryz.underlying127
  a66 := Tryz.isAgg127
  z66 := Tryz.sizeOf127
  v66 := Tryz.zeroValue127
  t70 := Tryz.underlying131
  a70 := Tryz.isAgg131
  z70 := Tryz.sizeOf131
  v70 := Tryz.zeroValue131
  t76 := Tryz.underlying146
  a76 := Tryz.isAgg146
  z76 := Tryz.sizeOf146
  v76 := Tryz.zeroValue146
  t77 := Tryz.underlying147
  a77 := Tryz.isAgg147
  z77 := Tryz.sizeOf147
  v77 := Tryz.zeroValue147 }
end Go.Proofs

namespace Go.Proofs.YtlpnggaeepjjfaaGreatDoor.Bo
open Go.RowKit Go.Sort Go.Proofs.YtlpnggaeepjjfaaGreatDoorW.PrintWords Go.Proofs.YtlpnggaeepjjfaaGreatDoorW.PrintLast
set_option linter.unusedVariables false
set_option linter.unusedSimpArgs false
/-- Draws and new blocks alone. -/
def Gr (W W' : World) : Prop := ∃ q os, W' = grow (W.drewN q) os
theorem Gr.refl (W : World) : Gr W W := ⟨0, #[], by rw [grow_empty]; rfl⟩
theorem Gr.drew {W W' : World} (h : Gr W W') : Gr W W'.drew := by
  obtain ⟨q, os, rfl⟩ := h
  exact ⟨q + 1, os, rfl⟩
theorem Gr.alloc {W W' : World} (h : Gr W W') (o : Obj) : Gr W (W'.alloc o) := by
  obtain ⟨q, os, rfl⟩ := h
  refine ⟨q, os ++ #[o], ?_⟩
  rw [← grow_grow]
  simp [grow, World.alloc]
theorem Gr.gb {W W' : World} (h : Gr W W') : W.grownBy W' none := by
  obtain ⟨q, os, rfl⟩ := h
  exact gb_trans (gb_drewN W q) (gb_grow _ os)
section
variable {W : World} {b q Bx : Nat} {size : Int} {L : List Rw}
set_option maxRecDepth 100000 in
set_option maxHeartbeats 4000000 in
theorem dirty_calls (S : Bk 71 36 W b q size L) (hO : Ok size L) (hbx : W.heap[Bx]? = some (.cells #[.pointer (some ⟨b, 0, none⟩)] 25 (0, 0))) (i : Nat) (hi : i < L.length) :
    Calls Tryz.prog 37 #[.int .i64 (i : Int), .pointer (some ⟨Bx, 0, none⟩)] W fun e w' => e = .returned (.int .i64 ((L.getD i zRw).used - (L.getD i zRw).live)) ∧ Gr W w' := by
  obtain ⟨c0, c1⟩ := S.book
  have hr := hO.rows _ (getD_mem hi)
  have hh := hO.hi
  obtain ⟨r0, r1, r2, r3⟩ := S.row (getD_some hi)
  have cb : W.cell? ⟨Bx, 0, none⟩ = some (.pointer (some ⟨b, 0, none⟩)) := cell_blk hbx rfl
  obtain ⟨⟨u, a, l, c⟩, hx⟩ : ∃ x, L.getD i zRw = x := ⟨_, rfl⟩
  rw [hx] at r0 r1 r2 r3 hr ⊢
  dsimp only at r0 r1 r2 r3 hr ⊢
  obtain ⟨m, hm⟩ : ∃ m, L.length = m := ⟨_, rfl⟩
  rw [hm] at c1 hi
  have i1 : (i : Int) < (m : Int) := by omega
  have i2 : (0 : Int) ≤ (i : Int) := by omega
  have w1 : wrap64 (a - l) = a - l := by unfold wrap64; omega
  have w2 : IntKind.i64.wrap (a - l) = a - l := IntWalk.i64_in _ (by omega)
  clear S hO hbx hx hm hr hh
  go_enter Tryz.func37, Tryz.ntmps37
  go_wp2
  go_quiet (fail)
  go_wp2
  go_ret
  exact ⟨rfl, nq, #[], by rw [grow_empty]⟩
end
def orI (x y : Int) : Int := if x ≠ 0 then x else y
set_option maxRecDepth 100000 in
set_option maxHeartbeats 4000000 in
theorem or_calls {W : World} {g : Nat} {x y : Int} (hg : W.heap[g]? = some (.cells #[.int .i64 x, .int .i64 y] 3 (0, 0))) :
    Calls Tryz.prog 40 #[.slice (some ⟨g, 0, none⟩) 2 2] W fun e w' => e = .returned (.int .i64 (orI x y)) ∧ w' = W := by
  have c0 : W.cell? ⟨g, 0, none⟩ = some (.int .i64 x) := cell_blk hg rfl
  have c1 : W.cell? ⟨g, 1, none⟩ = some (.int .i64 y) := cell_blk hg rfl
  have O1 := Aside0.mk (show x ≠ 0 → orI x y = x from fun h => if_pos h)
  have O2 := Aside0.mk (show x = 0 → orI x y = y from fun h => if_neg (fun k => k h))
  generalize orI x y = o at *
  clear hg
  go_enter Tryz.func40, Tryz.ntmps40
  go_wp2
  go_loopw [8] (fun i wr => wr = W ∧ (i = .int .i64 0 ∨ (i = .int .i64 1 ∧ Aside0 (x = 0)) ∨ (i = .int .i64 2 ∧ Aside0 (x = 0 ∧ y = 0)))) (fun i _ => 2 - (intOf i).toNat)
  case atStart => exact ⟨rfl, .inl rfl⟩
  case round =>
    obtain ⟨rfl, rfl | ⟨rfl, hx⟩ | ⟨rfl, hx⟩⟩ := hrel
    · by_cases h1 : x = 0
      · have h2 : (x != 0) = false := by simpa using h1
        have HX := Aside0.mk h1
        clear h1
        go_wp2
        go_roundw
        case rel => exact ⟨by first | trivial | rfl, .inr (.inl ⟨by first | rfl | trivial | go_num, HX⟩)⟩
        case measure => simp [intOf]
      · have h2 : (x != 0) = true := by simpa using h1
        have HX := Aside0.mk h1
        clear h1
        go_wp2
        go_ret
        exact ⟨by rw [O1.out HX.out]; rfl, rfl⟩
    · by_cases h1 : y = 0
      · have h2 : (y != 0) = false := by simpa using h1
        have HX := Aside0.mk (And.intro hx.out h1)
        clear h1
        go_wp2
        go_roundw
        case rel => exact ⟨by first | trivial | rfl, .inr (.inr ⟨by first | rfl | trivial | go_num, HX⟩)⟩
        case measure => simp [intOf]
      · have h2 : (y != 0) = true := by simpa using h1
        clear h1
        go_wp2
        go_ret
        exact ⟨by rw [O2.out hx.out]; rfl, rfl⟩
    · go_wp2
      go_ret
      exact ⟨by rw [O2.out hx.out.1, hx.out.2]; rfl, rfl⟩
def dirtyOf (L : List Rw) (i : Nat) : Int := (L.getD i zRw).used - (L.getD i zRw).live
def ordI (L : List Rw) (x y : Nat) : Int := orI (Lib.compareInt (dirtyOf L y) (dirtyOf L x)) (Lib.compareInt (x : Int) (y : Int))
theorem compare_calls (x y : Int) (w : World) : Calls Tryz.prog 41 #[.int .i64 x, .int .i64 y] w fun e w' => e = .returned (.int .i64 (Lib.compareInt x y)) ∧ w' = w :=
  Any.cmp_Compare_int Tryz.laysCmp x y w
theorem drewN_add (A : World) (q : Nat) : ∀ n, (A.drewN q).drewN n = A.drewN (q + n)
  | 0 => rfl
  | n + 1 => congrArg World.drew (drewN_add A q n)
theorem grow_drewN (A : World) (os : Array Obj) : ∀ n, (grow A os).drewN n = grow (A.drewN n) os
  | 0 => rfl
  | n + 1 => congrArg World.drew (grow_drewN A os n)
theorem Gr.trans {A B C : World} (h : Gr A B) (k : Gr B C) : Gr A C := by
  obtain ⟨q, os, rfl⟩ := h
  obtain ⟨q2, os2, rfl⟩ := k
  refine ⟨q + q2, os ++ os2, ?_⟩
  rw [grow_drewN, grow_grow, drewN_add]
section
variable {W : World} {b q Bx D : Nat} {size : Int} {L : List Rw}
set_option maxRecDepth 100000 in
set_option maxHeartbeats 4000000 in
theorem ord_calls (S : Bk 71 36 W b q size L) (hO : Ok size L) (hbx : W.heap[Bx]? = some (.cells #[.pointer (some ⟨b, 0, none⟩)] 25 (0, 0)))
    (hd : W.heap[D]? = some (.cells #[.func (.func 37) #[] #[.pointer (some ⟨Bx, 0, none⟩)]] 76 (0, 0))) (x y : Nat) (hx : x < L.length) (hy : y < L.length) :
    Calls Tryz.prog 39 #[.int .i64 (x : Int), .int .i64 (y : Int), .pointer (some ⟨D, 0, none⟩)] W fun e w' => e = .returned (.int .i64 (ordI L x y)) ∧ Gr W w' := by
  have HD := Aside0.mk (show ∀ W', Gr W W' → W'.cell? ⟨D, 0, none⟩ = some (.func (.func 37) #[] #[.pointer (some ⟨Bx, 0, none⟩)]) from fun W' h => cell_blk (blk_below hd (below_none h.gb)) rfl)
  have HY := Aside0.mk (show ∀ W', Gr W W' → Calls Tryz.prog 37 #[.int .i64 (y : Int), .pointer (some ⟨Bx, 0, none⟩)] W' fun e w' => e = .returned (.int .i64 (dirtyOf L y)) ∧ Gr W w' from fun W' h =>
    (dirty_calls (S.on (below_none h.gb)) hO (blk_below hbx (below_none h.gb)) y hy).mono fun e w' hh => ⟨hh.1, h.trans hh.2⟩)
  have HX := Aside0.mk (show ∀ W', Gr W W' → Calls Tryz.prog 37 #[.int .i64 (x : Int), .pointer (some ⟨Bx, 0, none⟩)] W' fun e w' => e = .returned (.int .i64 (dirtyOf L x)) ∧ Gr W w' from fun W' h =>
    (dirty_calls (S.on (below_none h.gb)) hO (blk_below hbx (below_none h.gb)) x hx).mono fun e w' hh => ⟨hh.1, h.trans hh.2⟩)
  unfold ordI
  have cd := HD.out W (Gr.refl _)
  generalize dirtyOf L y = dy at *
  generalize dirtyOf L x = dx at *
  have H1 := Aside0.mk (compare_calls dy dx)
  have H2 := Aside0.mk (compare_calls (x : Int) (y : Int))
  generalize Lib.compareInt dy dx = k1 at *
  generalize Lib.compareInt (x : Int) (y : Int) = k2 at *
  clear S hO hbx hd hx hy
  go_enter Tryz.func39, Tryz.ntmps39
  go_wp2
  go_region_held3 (fun V => V.cell? ⟨D, 0, none⟩ = some (.func (.func 37) #[] #[.pointer (some ⟨Bx, 0, none⟩)])) ((first | go_keep | assumption | exact HD.out _ G2.out | exact HD.out _ G1.out)) ((first | (go_at_call 37; go_loud (with_reducible refine (HY.out _ (Gr.refl _).drew).mono ?_); rintro e w1 ⟨rfl, h1⟩; have G1 := Aside0.mk h1; clear h1) | (go_at_call 37; go_loud (with_reducible refine (HX.out _ G1.out).mono ?_); rintro e w2 ⟨rfl, h2⟩; have G2 := Aside0.mk h2; clear h2) | (go_at_call 41; (with_reducible refine (H1.out _).mono ?_); rintro e w3 ⟨rfl, rfl⟩) | (go_at_call 41; (with_reducible refine (H2.out _).mono ?_); rintro e w3 ⟨rfl, rfl⟩) | (go_at_call 40; go_loud (refine (or_calls (blk_new _ _)).mono ?_); rintro e w4 ⟨rfl, rfl⟩)))
  go_wp2
  go_ret
  exact ⟨rfl, by first | exact G2.out.alloc _ | exact (G2.out.alloc _).drew | exact G2.out.drew.alloc _⟩
end
end Go.Proofs.YtlpnggaeepjjfaaGreatDoor.Bo

namespace Go.Proofs.YtlpnggaeepjjfaaGreatDoor.Bo
open Go.RowKit Go.Sort Go.Proofs.YtlpnggaeepjjfaaGreatDoorW.PrintWords Go.Proofs.YtlpnggaeepjjfaaGreatDoorW.PrintLast
set_option linter.unusedVariables false
set_option linter.unusedSimpArgs false
theorem ordI_lt (L : List Rw) (x y : Nat) : ordI L x y < 0 ↔ (dirtyOf L y < dirtyOf L x ∨ (dirtyOf L y = dirtyOf L x ∧ x < y)) := by
  unfold ordI orI Lib.compareInt
  generalize dirtyOf L y = dy
  generalize dirtyOf L x = dx
  by_cases h1 : dy < dx
  · simp [h1]
  · by_cases h2 : dy > dx
    · rw [if_neg h1, if_pos h2, if_pos (by decide)]
      omega
    · rw [if_neg h1, if_neg h2, if_neg (by simp)]
      by_cases h3 : (x : Int) < (y : Int)
      · rw [if_pos h3]; omega
      · rw [if_neg h3]
        split <;> omega
section
variable {α : Type} [Inhabited α] {enc : α → Value}
theorem heap_sortG {w : World} {g n : Nat} {os : Array Obj} {cur : Array Value} {e : TypeId} {fr : Nat × Nat} (d : Array α) (hb : w.heap[g]? = some (.cells cur e fr)) :
    (grow (putRow enc (Sort.ahead w n) g 0 d) os).heap[g]? = some (.cells (putCells enc 0 d cur) e fr) := by
  have hg : g < w.heap.size := (Array.getElem?_eq_some_iff.1 hb).1
  rw [heap_grow_old _ _ (by simpa using hg)]
  simp [putRow, mapBlock, Sort.ahead, Array.getElem?_modify, hb, onCells]
theorem gb_sortG {w : World} {g n : Nat} {os : Array Obj} (d : Array α) : w.grownBy (grow (putRow enc (Sort.ahead w n) g 0 d) os) (some g) := by
  refine ⟨rfl, rfl, rfl, by simp, fun k hk hne => ?_⟩
  rw [heap_grow_old _ _ (by simpa using hk)]
  have : g ≠ k := fun e => hne (by rw [e])
  simp [putRow, mapBlock, Sort.ahead, Array.getElem?_modify, this]
theorem take_putG (cur : Array Value) (ts : List α) (h : ts.length ≤ cur.size) : (putCells enc 0 ts.toArray cur).toList.take ts.length = ts.map enc := by
  apply List.ext_getElem?
  intro j
  by_cases hj : j < ts.length
  · rw [List.getElem?_take_of_lt hj, Array.getElem?_toList]
    simp [putCells, hj, show j < cur.size by omega]
  · rw [List.getElem?_take_eq_none (by omega), List.getElem?_eq_none (by simp; omega)]
end
def leN (L : List Rw) (x y : Nat) : Bool := !decide (ordI L y x < 0)
def sortN (L : List Rw) (xs : List Nat) : List Nat := xs.mergeSort (leN L)
def toI (xs : List Nat) : List Int := xs.map Int.ofNat
theorem encs_toI (xs : List Nat) : encs (Value.int .i64) (toI xs) = xs.map fun (x : Nat) => Value.int .i64 (x : Int) := by
  simp [encs, toI]
section
variable {W w0 : World} {b q Bx D : Nat} {size : Int} {L : List Rw}
set_option maxHeartbeats 1000000 in
theorem vsort_calls (S : Bk 71 36 W b q size L) (hO : Ok size L) (hbx : W.heap[Bx]? = some (.cells #[.pointer (some ⟨b, 0, none⟩)] 25 (0, 0)))
    (hd : W.heap[D]? = some (.cells #[.func (.func 37) #[] #[.pointer (some ⟨Bx, 0, none⟩)]] 76 (0, 0))) (v : Value) (xs : List Nat) (hx : ∀ x ∈ xs, x < L.length) (hlen : xs.length ≤ 256)
    (hb : Below w0.heap.size w0 W) (ho : W.ownsRow w0.heap.size 3 1 v xs.length (encs (Value.int .i64) (toI xs))) :
    Calls Tryz.prog 38 #[v, .func (.func 39) #[] #[.pointer (some ⟨D, 0, none⟩)]] W fun e w' => e = .returned (.tuple #[]) ∧ w'.ownsRow w0.heap.size 3 1 v (sortN L xs).length (encs (Value.int .i64) (toI (sortN L xs))) ∧ Below w0.heap.size w0 w' := by
  have hsl : (sortN L xs).length = xs.length := by unfold sortN; rw [List.length_mergeSort]
  rcases ho.2 with ⟨rfl, hz⟩ | ⟨g, cap, cur, rfl, hbase, hg, r1, r2, r3, r4⟩
  · obtain rfl : xs = [] := List.eq_nil_of_length_eq_zero hz
    refine (AnyF.slices_SortFunc_none { Tryz.laysSort with } none 0 _ W).mono ?_
    rintro e w' ⟨rfl, rfl⟩
    have hnil : sortN L [] = [] := by simp [sortN]
    rw [hnil]
    exact ⟨rfl, ho, hb⟩
  · cases hL : L.length with
    | zero =>
      have : xs = [] := by
        cases xs with
        | nil => rfl
        | cons x r => exact absurd (hx x (List.mem_cons_self ..)) (by omega)
      subst this
      refine (AnyF.slices_SortFunc_none { Tryz.laysSort with } _ _ _ W).mono ?_
      rintro e w' ⟨rfl, rfl⟩
      have hnil : sortN L [] = [] := by simp [sortN]
      rw [hnil]
      exact ⟨rfl, ho, hb⟩
    | succ n =>
      have hgl : g < W.heap.size := (Array.getElem?_eq_some_iff.1 hg).1
      let enc : Fin (n + 1) → Value := fun i => .int .i64 (i.val : Int)
      let cf : Fin (n + 1) → Fin (n + 1) → Int := fun x y => ordI L x.val y.val
      obtain ⟨ys, hys⟩ : ∃ ys : List (Fin (n + 1)), ys.map (·.val) = xs := ⟨xs.pmap (fun x h => ⟨x, h⟩) (fun x h => hL ▸ hx x h), by simp [List.map_pmap]⟩
      have hyl : ys.length = xs.length := by rw [← hys, List.length_map]
      have hcur : cur.toList.take ys.length = ys.map enc := by
        rw [Nat.mul_one] at r4
        rw [hyl, r4, encs_toI, ← hys, List.map_map]
        rfl
      have hH : Holds enc W g 0 ys.toArray := by
        intro j hj
        have hj' : j < ys.length := by simpa using hj
        have h1 : cur.toList[j]? = some (enc ys[j]) := by
          have : (cur.toList.take ys.length)[j]? = (ys.map enc)[j]? := by rw [hcur]
          rw [List.getElem?_take_of_lt hj'] at this
          rw [this]
          simp [hj']
        have h2 : cur[j]? = some (enc ys[j]) := by rw [← Array.getElem?_toList]; exact h1
        constructor
        · rw [Nat.zero_add, cell_blk hg h2]
          simp [hj']
        · simp [World.frozen?, hg]
      have hne : ∀ {k : Nat} {cs : Array Value} {t : TypeId}, W.heap[k]? = some (.cells cs t (0, 0)) → t ≠ 3 → k ≠ g := by
        intro k cs t hk ht e
        subst e
        rw [hg] at hk
        cases hk
        exact ht rfl
      have hcmp : CmpLays1 Tryz.prog 39 #[.pointer (some ⟨D, 0, none⟩)] enc cf g 0 ys.toArray.size W := by
        intro m os dk hs x y
        have hk : ∀ k, k ≠ g → k < W.heap.size → (sortWorld enc W g 0 m dk os).heap[k]? = W.heap[k]? := fun k hk hl => (gb_sortG dk).block k hl (fun e => hk (by cases e; rfl))
        have hget : ∀ {k : Nat} {o : Obj}, W.heap[k]? = some o → k ≠ g → (sortWorld enc W g 0 m dk os).heap[k]? = some o := fun hk' hn => (hk _ hn (Array.getElem?_eq_some_iff.1 hk').1).trans hk'
        exact ord_calls (W := sortWorld enc W g 0 m dk os) ⟨hget S.hb (hne S.hb (by decide)), hget S.hq (hne S.hq (by decide)), S.ne⟩ hO (hget hbx (hne hbx (by decide))) (hget hd (hne hd (by decide))) x.val y.val (by rw [hL]; exact x.isLt) (by rw [hL]; exact y.isLt)
      have hlt : ∀ x y : Fin (n + 1), ltOf cf x y = true ↔ (dirtyOf L y.val < dirtyOf L x.val ∨ (dirtyOf L y.val = dirtyOf L x.val ∧ x.val < y.val)) := by
        intro x y
        unfold ltOf
        rw [decide_eq_true_iff]
        exact ordI_lt L x.val y.val
      have hltf : ∀ x y : Fin (n + 1), ltOf cf x y = false ↔ ¬ (dirtyOf L y.val < dirtyOf L x.val ∨ (dirtyOf L y.val = dirtyOf L x.val ∧ x.val < y.val)) := by
        intro x y
        rw [← hlt x y]
        simp
      have hO' : SWO (ltOf cf) := by
        refine ⟨fun x => (hltf x x).2 (by omega), fun x y z h1 h2 => (hlt x z).2 ?_, fun x y z h1 h2 => (hltf x z).2 ?_⟩
        · have h1 := (hlt x y).1 h1
          have h2 := (hlt y z).1 h2
          omega
        · have h1 := (hltf x y).1 h1
          have h2 := (hltf y z).1 h2
          omega
      have hT : ∀ x y : Fin (n + 1), ltOf cf x y = false → ltOf cf y x = false → x = y := by
        intro x y h1 h2
        have h1 := (hltf x y).1 h1
        have h2 := (hltf y x).1 h2
        exact Fin.ext (by omega)
      have hC := Any.slices_SortFunc_total Tryz.laysSort enc (fun _ => rfl) cf hO' 39 #[.pointer (some ⟨D, 0, none⟩)] g 0 cap ys.toArray W (enters_of Tryz.func39 (by kernel_rfl) rfl) hcmp hH hgl (by simp; omega) hT
      have hsz : ys.toArray.size = xs.length := by simpa using hyl
      rw [hsz] at hC
      refine hC.mono ?_
      rintro e w' ⟨rfl, nn, os, rfl⟩
      have hms : (ys.mergeSort fun x y => !(ltOf cf) y x).map (·.val) = sortN L xs := by
        unfold sortN
        rw [← hys]
        exact List.map_mergeSort (fun a _ b _ => rfl)
      refine ⟨rfl, ?_, hb.grown (gb_sortG _) hb.size (fun j hj => by cases hj; exact hbase)⟩
      have hml : (ys.mergeSort fun x y => !(ltOf cf) y x).length = xs.length := by rw [List.length_mergeSort, hyl]
      refine ⟨by rw [encs_toI, List.length_map, Nat.mul_one], .inr ⟨g, cap, _, by rw [hsl], hbase, heap_sortG _ hg, by rw [hsl]; exact r1, r2, by simp [putCells, r3], ?_⟩⟩
      rw [Nat.mul_one, hsl, ← hml]
      show (putCells enc 0 (ys.mergeSort fun x y => !(ltOf cf) y x).toArray cur).toList.take _ = _
      rw [take_putG cur _ (by rw [hml, r3]; omega), encs_toI, ← hms, List.map_map]
      rfl
end
end Go.Proofs.YtlpnggaeepjjfaaGreatDoor.Bo

namespace Go.Proofs.YtlpnggaeepjjfaaGreatDoor.Bo
open Go.RowKit Go.Sort Go.Proofs.YtlpnggaeepjjfaaGreatDoorW.PrintWords Go.Proofs.YtlpnggaeepjjfaaGreatDoorW.PrintLast
set_option linter.unusedVariables false
set_option linter.unusedSimpArgs false
def onK (use : Int) (L : List Rw) : Nat → List Nat
  | 0 => []
  | k + 1 => onK use L k ++ if (L.getD k zRw).use = use then [k] else []
def onR (use : Int) (L : List Rw) : List Nat := if use = 0 then [] else onK use L L.length
theorem toI_append (a b : List Nat) : toI (a ++ b) = toI a ++ toI b := by simp [toI]
theorem toI_length (a : List Nat) : (toI a).length = a.length := by simp [toI]
theorem onK_toI (use : Int) (L : List Rw) (k : Nat) : toI (onK use L k) = ofK use L k := by
  induction k with
  | zero => rfl
  | succ k ih =>
    rw [onK, toI_append, ih, ofK]
    split <;> rfl
theorem onR_toI (use : Int) (L : List Rw) : toI (onR use L) = ofR use L := by
  unfold onR ofR
  split
  · rfl
  · exact onK_toI _ _ _
theorem onK_lt (use : Int) (L : List Rw) (k : Nat) : ∀ x ∈ onK use L k, x < k := by
  induction k with
  | zero => intro x hx; simp [onK] at hx
  | succ k ih =>
    intro x hx
    rw [onK, List.mem_append] at hx
    rcases hx with hx | hx
    · have := ih x hx; omega
    · split at hx
      · simp at hx; omega
      · simp at hx
theorem onR_lt (use : Int) (L : List Rw) : ∀ x ∈ onR use L, x < L.length := by
  intro x hx
  unfold onR at hx
  split at hx
  · simp at hx
  · exact onK_lt _ _ _ x hx
theorem onR_len (use : Int) (L : List Rw) : (onR use L).length ≤ L.length := by
  unfold onR
  split
  · simp
  · have := ofK_len use L L.length
    rw [← onK_toI, toI_length] at this
    exact this
def badN (L : List Rw) (i : Nat) : Bool := (L.getD i zRw).closed && decide (dirtyOf L i > 0)
def vicK (L : List Rw) (xs : List Nat) (k : Nat) : List Nat := (xs.take k).filter (badN L)
theorem vicK_succ (L : List Rw) (xs : List Nat) (k : Nat) (hk : k < xs.length) : vicK L xs (k + 1) = vicK L xs k ++ if badN L (xs.getD k 0) = true then [xs.getD k 0] else [] := by
  have : xs.take (k + 1) = xs.take k ++ [xs.getD k 0] := by
    rw [List.take_add_one, List.getD_eq_getElem?_getD, List.getElem?_eq_getElem hk]
    rfl
  unfold vicK
  rw [this, List.filter_append]
  congr 1
  by_cases h : badN L (xs.getD k 0) = true
  · rw [if_pos h, List.filter_cons, if_pos h]; rfl
  · rw [if_neg h, List.filter_cons, if_neg h]; rfl
theorem vicK_len (L : List Rw) (xs : List Nat) (k : Nat) : (vicK L xs k).length ≤ k := by
  unfold vicK
  refine Nat.le_trans (List.length_filter_le _ _) ?_
  rw [List.length_take]
  omega
/-- The victims: closed, of that use, dirty; the dirtier ones first. -/
def vicR (use : Int) (L : List Rw) : List Nat := sortN L ((onR use L).filter (badN L))
theorem ints_atk {w : World} {A : Option Addr} {xs : List Int} (h : Kd.C (Kd.int .i64) w A xs.length xs) (hn : 0 < xs.length) : ∃ b off, A = some ⟨b, off, none⟩ ∧ ∀ k x, xs[k]? = some x → w.cell? ⟨b, off + k, none⟩ = some (.int .i64 x) := by
  obtain ⟨b, off, hA, h0⟩ := ints_at (x := xs[0]) h (by rw [List.getElem?_eq_getElem hn])
  refine ⟨b, off, hA, ?_⟩
  intro k x hk
  obtain ⟨_, hl, hc⟩ := h
  obtain ⟨ad, hA', hc⟩ := hc hn
  rw [hA] at hA'
  cases hA'
  obtain ⟨c, hcl, hr, hcc⟩ := hc k x hk
  have hr' : c = [.int .i64 x] := hr
  subst hr'
  have h0 := hcc 0 _ rfl
  have hsz : (Kd.int .i64).sz = 1 := rfl
  rw [hsz, Nat.mul_one, Nat.add_zero] at h0
  unfold Addr.add at h0
  split at h0
  · rename_i hk0
    subst hk0
    exact h0
  · exact h0
theorem cell_bel {w w' : World} (hb : Below w.heap.size w w') {a : Addr} {v : Value} (h : w.cell? a = some v) : w'.cell? a = some v :=
  cell_at hb h (World.block_lt_of_cell? w a h)
section
variable {w : World} {b q : Nat} {size : Int} {L : List Rw}
set_option maxRecDepth 100000 in
set_option maxHeartbeats 4000000 in
theorem victims_calls (S : Bk 71 36 w b q size L) (hO : Ok size L) (use : Int) :
    Calls Tryz.prog 17 #[.pointer (some ⟨b, 0, none⟩), .int .i64 use] w (RowPost w (toI (vicR use L))) := by
  have HO := Aside0.mk hO
  have hB2 : Below w.heap.size w ((w.alloc (.cells #[.pointer (some ⟨b, 0, none⟩)] 25)).alloc (.cells #[.func (.func 37) #[] #[.pointer (some ⟨w.heap.size, 0, none⟩)]] 76)) := below_alloc (below_alloc (Below.refl _ _) _) _
  have HB2 := Aside0.mk hB2
  have HS2 := Aside0.mk (S.on hB2)
  have HBx := Aside0.mk (blk_alloc (blk_new w (.cells #[.pointer (some ⟨b, 0, none⟩)] 25)) (.cells #[.func (.func 37) #[] #[.pointer (some ⟨w.heap.size, 0, none⟩)]] 76))
  have HD := Aside0.mk (show ((w.alloc (.cells #[.pointer (some ⟨b, 0, none⟩)] 25)).alloc (.cells #[.func (.func 37) #[] #[.pointer (some ⟨w.heap.size, 0, none⟩)]] 76)).heap[w.heap.size + 1]? = some (.cells #[.func (.func 37) #[] #[.pointer (some ⟨w.heap.size, 0, none⟩)]] 76 (0, 0)) by
    rw [← World.size_alloc w (.cells #[.pointer (some ⟨b, 0, none⟩)] 25)]; exact blk_new _ _)
  have HOf := Aside0.mk (of_calls HS2.out hO.len use)
  have HV := Aside0.mk (show vicR use L = sortN L (vicK L (onR use L) (onR use L).length) by unfold vicR vicK; rw [List.take_length])
  have hlen := onR_len use L
  have h256 := hO.len
  have hlt := onR_lt use L
  rw [← onR_toI] at HOf
  obtain ⟨xs, hxs⟩ : ∃ xs, onR use L = xs := ⟨_, rfl⟩
  rw [hxs] at HOf HV hlen hlt
  have HLt := Aside0.mk hlt
  have HL := Aside0.mk (vicK_len L xs)
  have HL' := Aside0.mk (show ∀ k, (toI (vicK L xs k)).length ≤ k from fun k => by rw [toI_length]; exact HL.out k)
  obtain ⟨n, hn⟩ : ∃ n, xs.length = n := ⟨_, rfl⟩
  rw [hn] at HV hlen
  have HN := Aside0.mk hn
  have hn256 : n ≤ 256 := by omega
  clear S hO hxs hlt hn hB2 hlen h256
  go_enter Tryz.func17, Tryz.ntmps17
  go_wp2_with (go_at_call 28; go_loud (with_reducible refine HOf.out.mono ?_); rintro e w3 ⟨v3, rfl, ho, hb⟩; obtain ⟨A, c, rfl⟩ := Kd.R_slice ho; have HOw := Aside0.mk ho; have HB3 := Aside0.mk hb; clear ho hb; rw [toI_length, HN.out])
  obtain ⟨D, hD⟩ : ∃ D, w.heap.size + 1 = D := ⟨_, rfl⟩
  obtain ⟨X, hX⟩ : ∃ X, w.heap.size = X := ⟨_, rfl⟩
  have HSW := Aside0.mk (HS2.out.on HB3.out)
  have HBx3 := Aside0.mk (blk_below HBx.out HB3.out)
  have HD3 := Aside0.mk (blk_below HD.out HB3.out)
  have HBB := Aside0.mk (btr HB2.out HB3.out)
  rw [hD] at HD3 ⊢
  rw [hX] at HBx3 HD3 ⊢
  have HXw := Aside0.mk hX
  clear hD hX HD HBx HS2 HOf
  go_loopw [5, 14] (fun out i wr => ∃ (v : Value) (k : Nat), k ≤ n ∧ out = v ∧ i = .int .i64 k ∧ Aside0 (Kd.R (Kd.int .i64) 3 wr w3.heap.size (fun _ => True) v (toI (vicK L xs k))) ∧ Aside0 (Below w3.heap.size w3 wr)) (fun _ i _ => n - (intOf i).toNat)
  case atStart => exact ⟨_, 0, by omega, rfl, rfl, ⟨Kd.R_nil _ _ _ _ _⟩, ⟨Below.refl _ _⟩⟩
  case round =>
    obtain ⟨v, k, hk, rfl, rfl, HR, HW⟩ := hrel
    have hbx0 := cell_blk (i := 0) (blk_below HBx3.out HW.out) rfl
    have hd0 := cell_blk (i := 0) (blk_below HD3.out HW.out) rfl
    obtain ⟨c0, c1⟩ := (HSW.out.on HW.out).book
    by_cases hlt : k < n
    · have hkl : k < xs.length := by rw [HN.out]; exact hlt
      have hsu := vicK_succ L xs k hkl
      have hxm : xs.getD k 0 ∈ xs := by rw [List.getD_eq_getElem?_getD, List.getElem?_eq_getElem hkl]; exact List.getElem_mem _
      have hxl := HLt.out _ hxm
      have hx1 : (toI xs)[k]? = some ((xs.getD k 0 : Nat) : Int) := by
        unfold toI
        rw [List.getElem?_map, List.getElem?_eq_getElem hkl, List.getD_eq_getElem?_getD, List.getElem?_eq_getElem hkl]
        rfl
      obtain ⟨g, o, rfl, hcs⟩ := ints_atk (by rw [toI_length, HN.out]; have := (Kd.R_reads' HOw.out).2.2; rw [toI_length, HN.out] at this; exact this) (by rw [toI_length]; omega)
      have hcx := cell_bel HW.out (hcs k _ hx1)
      have HDc := Aside0.mk (dirty_calls (HSW.out.on HW.out) HO.out (blk_below HBx3.out HW.out) (xs.getD k 0) hxl)
      obtain ⟨x, hxx⟩ : ∃ x, xs.getD k 0 = x := ⟨_, rfl⟩
      rw [hxx] at hsu hxl hcx HDc
      have hbd : badN L x = ((L.getD x zRw).closed && decide (dirtyOf L x > 0)) := rfl
      obtain ⟨r0, r1, r2, r3⟩ := (HSW.out.on HW.out).row (getD_some hxl)
      have hdx : dirtyOf L x = (L.getD x zRw).used - (L.getD x zRw).live := rfl
      rw [← hdx] at HDc
      obtain ⟨⟨u, a, l, c⟩, hrow⟩ : ∃ r, L.getD x zRw = r := ⟨_, rfl⟩
      rw [hrow] at r0 r1 r2 r3 hbd
      dsimp only at r0 r1 r2 r3 hbd
      obtain ⟨d, hdd⟩ : ∃ d, dirtyOf L x = d := ⟨_, rfl⟩
      rw [hdd] at hbd HDc
      obtain ⟨M, hM⟩ : ∃ M, L.length = M := ⟨_, rfl⟩
      rw [hM] at hxl c1
      have HSu := Aside0.mk hsu
      have HBd := Aside0.mk hbd
      have j1 : (k : Int) < (n : Int) := by omega
      have j2 : (0 : Int) ≤ (k : Int) := by omega
      have i1 : (x : Int) < (M : Int) := by omega
      have i2 : (0 : Int) ≤ (x : Int) := by omega
      clear hsu hbd hxx hxm hx1 hkl hrow hdx hdd hM hcs
      cases c with
      | false =>
        go_wp2
        go_roundw
        case rel => exact ⟨_, k + 1, by omega, rfl, by go_num, ⟨by rw [HSu.out, HBd.out]; simpa using HR.out⟩, HW⟩
        case measure => simp [intOf]; omega
      | true =>
        by_cases hd1 : d > 0
        · have hd2 : (0 : Int) < d := hd1
          have HD1 := Aside0.mk hd1
          clear hd1
          go_wp2_with (first | (go_at_call 37; go_loud (with_reducible refine HDc.out.mono ?_); rintro e w4 ⟨rfl, h4⟩; have HR4 := Aside0.mk (Kd.R_below HR.out (below_none h4.gb)); have HW4 := Aside0.mk (btr HW.out (below_none h4.gb)); clear h4) | ((with_reducible refine gate_builtin (b := .append) (xs := #[.tmp 32, .tmp 34]) rfl ?_); at_builtin; go_loud (refine Kd.R_append (Kd.int .i64) (w0 := w3) w3.heap.size rfl (.tmp 32) (.tmp 34) 33 3 (.int .i64 0) 8 rfl Tryz.underlying33 Q.info3 rfl (by decide) (by omega) _ (toI (vicK L xs k)) (x : Int) [.int .i64 x] (fun _ => True) (fun _ => False) rfl ?aX ?aP (fun _ hk => hk.elim) (fun _ _ => trivial) HR4.out HW4.out HW4.out.size ?aL ?_); go_loud (case aP => exact rfl); go_loud (case aX => first | rfl | (rw [World.size_alloc]; rfl)); go_loud (case aL => have := HL'.out k; omega); intro v1 w1 ho hb hg hat; have HR1 := Aside0.mk ho; have HW1 := Aside0.mk hb; clear ho hb hg hat))
          go_roundw
          case rel => exact ⟨_, k + 1, by omega, rfl, by go_num, ⟨by rw [HSu.out, HBd.out, toI_append, Bool.true_and, decide_eq_true HD1.out, if_pos rfl]; exact HR1.out⟩, HW1⟩
          case measure => simp [intOf]; omega
        · have hd2 : ¬ (0 : Int) < d := hd1
          have HD1 := Aside0.mk hd1
          clear hd1
          go_wp2_with (first | (go_at_call 37; go_loud (with_reducible refine HDc.out.mono ?_); rintro e w4 ⟨rfl, h4⟩; have HR4 := Aside0.mk (Kd.R_below HR.out (below_none h4.gb)); have HW4 := Aside0.mk (btr HW.out (below_none h4.gb)); clear h4))
          go_roundw
          case rel => exact ⟨_, k + 1, by omega, rfl, by go_num, ⟨by rw [HSu.out, HBd.out, Bool.true_and, decide_eq_false (show ¬ d > 0 by have := HD1.out; omega), if_neg (by decide), List.append_nil]; exact HR4.out⟩, HW4⟩
          case measure => simp [intOf]; omega
    · obtain rfl : k = n := by omega
      have j1 : ¬ (k : Int) < (k : Int) := by omega
      have hv1 : ∀ x ∈ vicK L xs k, x < L.length := fun x hx => HLt.out x (List.mem_of_mem_take (List.mem_filter.1 hx).1)
      have hv2 := HL.out k
      have hown := Kd.own_of_R HR.out
      rw [toI_length] at hown
      have HSort := Aside0.mk (vsort_calls (w0 := w3) (HSW.out.on HW.out) HO.out (blk_below HBx3.out HW.out) (blk_below HD3.out HW.out) _ (vicK L xs k) hv1 (by omega) HW.out hown)
      clear hv1 hv2 hown
      go_wp2_with (go_at_call 38; go_loud (with_reducible refine HSort.out.mono ?_); rintro e w5 ⟨rfl, h5, h6⟩; have HQ5 := Aside0.mk h5; have HQ6 := Aside0.mk h6; clear h5 h6)
      go_ret
      rw [HV.out]
      exact ⟨_, rfl, Kd.R_lower (Kd.R_of_own (by rw [toI_length]; exact HQ5.out) (fun _ _ => trivial)) HBB.out.size, btr HBB.out HQ6.out⟩
end
end Go.Proofs.YtlpnggaeepjjfaaGreatDoor.Bo

namespace Go.Proofs.YtlpnggaeepjjfaaGreatDoor.Bo
open Go.RowKit Go.Proofs.YtlpnggaeepjjfaaGreatDoorW.PrintWords Go.Proofs.YtlpnggaeepjjfaaGreatDoor.Cut
set_option linter.unusedVariables false
set_option linter.unusedSimpArgs false
def lsP (text : ByteArray) : List ByteArray := Lib.splitB ⟨#[10]⟩ 0 (Lib.countB text ⟨#[10]⟩) text
def trimC (s : ByteArray) : ByteArray := ⟨(Lib.trimSuffix s.data.toList closedB).toArray⟩
def hasC (s : ByteArray) : Bool := Lib.hasSuffix s.data.toList closedB
/-- The numbers, if they are n. -/
def get4 (s : ByteArray) : Option (Int × Int × Int × Int) := match numR s 4 with
  | ([a, b, c, d], true) => some (a, b, c, d)
  | _ => none
def get2 (s : ByteArray) : Option (Int × Int) := match numR s 2 with
  | ([a, b], true) => some (a, b)
  | _ => none
def lineP (size : Int) (L : List Rw) (s : ByteArray) : Option (List Rw) :=
  if s.size = 0 then some L else
  match get4 (trimC s) with
  | none => none
  | some (a, b, c, d) => if (takeR L a b).1 ≠ 0 then none else if d < 0 then none else if d > c then none else if c > size then none else some (L.set a.toNat ⟨b, c, d, hasC s⟩)
def foldP (size : Int) (L0 : List Rw) (ls : List ByteArray) : Nat → Option (List Rw)
  | 0 => some L0
  | k + 1 => (foldP size L0 ls k).bind fun L => lineP size L (ls.getD (k + 1) ByteArray.empty)
def parseP (text : ByteArray) : Option (Int × List Rw) :=
  match get2 ((lsP text).getD 0 ByteArray.empty) with
  | none => none
  | some (n, size) =>
    if n < 1 ∨ 256 < n ∨ size < 1 ∨ 16777216 < size then none else
    match foldP size (List.replicate n.toNat zRw) (lsP text) ((lsP text).length - 1) with
    | none => none
    | some L => if textR size L = text then some (size, L) else none
theorem numR_true {s : ByteArray} {want : Int} (h : (numR s want).2 = true) : ((numR s want).1.length : Int) = want := by
  unfold numR at h ⊢
  split at h
  · simpa using h
  · cases h
theorem get4_some {s : ByteArray} {a b c d : Int} (h : get4 s = some (a, b, c, d)) : numR s 4 = ([a, b, c, d], true) := by
  unfold get4 at h
  split at h
  · rename_i h2; rw [h2]; cases h; rfl
  · cases h
theorem get4_none {s : ByteArray} (h : get4 s = none) : (numR s 4).2 = false := by
  unfold get4 at h
  split at h
  · cases h
  · rename_i hno
    by_cases ht : (numR s 4).2 = true
    · have hl := numR_true ht
      generalize hx : numR s 4 = x at *
      obtain ⟨l, t⟩ := x
      dsimp only at ht hl
      subst ht
      match l, hl with
      | [a, b, c, d], _ => exact absurd rfl (hno a b c d)
    · simpa using ht
theorem get2_some {s : ByteArray} {a b : Int} (h : get2 s = some (a, b)) : numR s 2 = ([a, b], true) := by
  unfold get2 at h
  split at h
  · rename_i h2; rw [h2]; cases h; rfl
  · cases h
theorem get2_none {s : ByteArray} (h : get2 s = none) : (numR s 2).2 = false := by
  unfold get2 at h
  split at h
  · cases h
  · rename_i hno
    by_cases ht : (numR s 2).2 = true
    · have hl := numR_true ht
      generalize hx : numR s 2 = x at *
      obtain ⟨l, t⟩ := x
      dsimp only at ht hl
      subst ht
      match l, hl with
      | [a, b], _ => exact absurd rfl (hno a b)
    · simpa using ht
theorem foldP_none {size : Int} {L0 : List Rw} {ls : List ByteArray} {k : Nat} (h : foldP size L0 ls k = none) : ∀ j, foldP size L0 ls (k + j) = none
  | 0 => h
  | j + 1 => by
    show (foldP size L0 ls (k + j)).bind _ = none
    rw [foldP_none h j]
    rfl
theorem take0 {L : List Rw} {a b : Int} (h : (takeR L a b).1 = 0) : ∃ i : Nat, a = (i : Int) ∧ i < L.length ∧ 1 ≤ b ∧ b ≤ 3 ∧ (L.getD i zRw).use = 0 ∧ (takeR L a b).2 = L.set i ⟨b, 0, 0, false⟩ := by
  unfold takeR at h ⊢
  cases ht : there L a with
  | none => rw [ht] at h; simp at h
  | some i =>
    rw [ht] at h
    obtain ⟨h1, h2⟩ := there_some ht
    dsimp only at h ⊢
    split at h
    · simp at h
    · split at h
      · simp at h
      · rename_i g1 g2
        refine ⟨i, h1, h2, by omega, by omega, by simpa using g2, ?_⟩
        rw [if_neg g1, if_neg g2]
/-- What a book that was made keeps. -/
structure Ok2 (size : Int) (L : List Rw) : Prop where
  ok : Ok size L
  pos : 1 ≤ L.length
  zr : ∀ x ∈ L, x.use = 0 → x = zRw
theorem Ok2.set {size : Int} {L : List Rw} (h : Ok2 size L) {i : Nat} {y : Rw} (hy : 0 ≤ y.use ∧ y.use ≤ 3 ∧ 0 ≤ y.live ∧ y.live ≤ y.used ∧ y.used ≤ size) (hz : y.use = 0 → y = zRw) : Ok2 size (L.set i y) :=
  ⟨h.ok.set hy, by rw [List.length_set]; exact h.pos, fun x hx => (List.mem_or_eq_of_mem_set hx).elim (h.zr x) (fun e => e ▸ hz)⟩
theorem new_Ok2 {n : Nat} {size : Int} (h1 : 1 ≤ n) (h2 : n ≤ 256) (h3 : 1 ≤ size) (h4 : size ≤ 16777216) : Ok2 size (List.replicate n zRw) := by
  refine ⟨⟨h3, h4, by rw [List.length_replicate]; exact h2, ?_⟩, by rw [List.length_replicate]; exact h1, ?_⟩
  · intro x hx
    rw [List.eq_of_mem_replicate hx]
    show (0 : Int) ≤ 0 ∧ (0 : Int) ≤ 3 ∧ (0 : Int) ≤ 0 ∧ (0 : Int) ≤ 0 ∧ (0 : Int) ≤ size
    omega
  · intro x hx _
    exact List.eq_of_mem_replicate hx
theorem lineP_ok2 {size : Int} {L L' : List Rw} {s : ByteArray} (hO : Ok2 size L) (h : lineP size L s = some L') : Ok2 size L' := by
  unfold lineP at h
  split at h
  · cases h; exact hO
  · split at h
    · cases h
    · rename_i a b c d _
      split at h
      · cases h
      · split at h
        · cases h
        · split at h
          · cases h
          · split at h
            · cases h
            · rename_i h1 h2 h3 h4
              cases h
              obtain ⟨i, _, _, hb1, hb3, _, _⟩ := take0 (L := L) (a := a) (b := b) (by simpa using h1)
              exact hO.set (by dsimp only; omega) (by dsimp only; omega)
/-- Bits of a row that is read: its block is new. -/
theorem R_at {w : World} {base : Nat} {v : Value} {xs : List Int} {ok : Nat → Prop} (h : Kd.R (Kd.int .i64) 3 w base ok v xs) (hn : 0 < xs.length) :
    ∃ g c, v = .slice (some ⟨g, 0, none⟩) xs.length c ∧ base ≤ g ∧ ∀ k x, xs[k]? = some x → w.cell? ⟨g, k, none⟩ = some (.int .i64 x) := by
  obtain ⟨A, c, rfl⟩ := Kd.R_slice h
  have hr := (Kd.R_reads' h).2.2
  obtain ⟨b, off, rfl, hc⟩ := ints_atk hr hn
  obtain ⟨h0, inner, hown, _⟩ := h
  rcases hown.2 with ⟨e, _⟩ | ⟨g, cap, cur, e, hg, _⟩
  · cases e
  · cases e
    exact ⟨b, c, rfl, hg, fun k x hk => by have := hc k x hk; rwa [Nat.zero_add] at this⟩
def ParsePost (tb tr : TypeId) (r : Option (Int × List Rw)) (w : World) (e : Ending) (w' : World) : Prop :=
  Below w.heap.size w w' ∧ ((r = none ∧ e = .returned (.tuple #[.pointer none, .int .i64 22])) ∨ ∃ size L b q, r = some (size, L) ∧ Ok2 size L ∧ e = .returned (.tuple #[.pointer (some ⟨b, 0, none⟩), .int .i64 0]) ∧ Bk tb tr w' b q size L ∧ w.heap.size ≤ b ∧ w.heap.size ≤ q)
theorem lsP_len (text : ByteArray) : (lsP text).length = Lib.countB text ⟨#[10]⟩ + 1 := Lib.splitB_all ⟨#[10]⟩ (Nat.le_refl 1) 0 _ text rfl
theorem lsP_C (text : ByteArray) : lsP text = (cutC 10 text.data.toList).map mkB := splitB_C 10 _ text rfl
theorem cutC_mem (c : UInt8) : ∀ l : List UInt8, ∀ x ∈ cutC c l, x.length ≤ l.length
  | [], x, h => by simp [cutC] at h; simp [h]
  | b :: r, x, h => by
    have := cutC_mem c r
    unfold cutC at h
    split at h
    · rcases List.mem_cons.1 h with rfl | h
      · simp
      · have := this x h; simp; omega
    · split at h
      · rw [List.mem_singleton] at h; subst h; simp
      · rename_i hd t e
        rcases List.mem_cons.1 h with rfl | h
        · have := this hd (by rw [e]; exact List.mem_cons_self ..); simp; omega
        · have := this x (by rw [e]; exact List.mem_cons_of_mem _ h); simp; omega
theorem lsP_mem {text x : ByteArray} (h : x ∈ lsP text) : x.size ≤ text.size := by
  rw [lsP_C] at h
  obtain ⟨l, hl, rfl⟩ := List.mem_map.1 h
  have := cutC_mem _ _ _ hl
  rw [Array.length_toList] at this
  show (mkB l).data.size ≤ _
  simpa [mkB] using this
theorem lsP_at (text : ByteArray) {k : Nat} (hk : k < (lsP text).length) : (lsP text).getD k ByteArray.empty ∈ lsP text := by
  rw [List.getD_eq_getElem?_getD, List.getElem?_eq_getElem hk]
  exact List.getElem_mem _
theorem trimC_size (s : ByteArray) : (trimC s).size ≤ s.size := by
  show (Lib.trimSuffix s.data.toList closedB).toArray.size ≤ _
  rw [List.size_toArray]
  unfold Lib.trimSuffix
  have : s.data.toList.length = s.size := by rw [Array.length_toList]; rfl
  split
  · rw [List.length_take]; omega
  · omega
theorem hi9 : (Tryz.prog.info? 9).map (fun i => (i.zero, i.size, i.bytes)) = some (some (.string ByteArray.empty), 1, 16) := by kernel_rfl
theorem split_calls (text : ByteArray) (w : World) (hs : text.size < 4294967281) (hL : Lw w) : Calls Tryz.prog 42 #[.string text, .string ⟨#[10]⟩] w fun e w' =>
    e = .returned (.slice (some ⟨w.heap.size, 0, none⟩) (lsP text).length (lsP text).length) ∧ w' = w.alloc (.cells ((lsP text).map Value.string).toArray 9) := by
  obtain ⟨m, hm⟩ := hL.ml
  refine (Any.strings_Split Tryz.laysSplit hi9 text ⟨#[10]⟩ m w hs hm (Nat.le_refl 1)).mono ?_
  rintro e w' ⟨he, hw⟩
  rw [lsP_len]
  exact ⟨he, hw⟩
theorem cuts_calls (s : ByteArray) (w : World) (hs : s.size ≤ 9223372036854775807) : Calls Tryz.prog 44 #[.string s, .string ⟨#[32, 99, 108, 111, 115, 101, 100]⟩] w fun e w' =>
    e = .returned (.tuple #[.string (trimC s), .bool (hasC s)]) ∧ w' = w := Any.strings_CutSuffix Tryz.laysCut s _ w hs
end Go.Proofs.YtlpnggaeepjjfaaGreatDoor.Bo

namespace Go.Proofs.YtlpnggaeepjjfaaGreatDoor.Bo
open Go.RowKit Go.Proofs.YtlpnggaeepjjfaaGreatDoor.Cut
set_option linter.unusedVariables false
set_option linter.unusedSimpArgs false
theorem foldP_ok2 {size : Int} {L0 : List Rw} {ls : List ByteArray} (hO : Ok2 size L0) : ∀ k L, foldP size L0 ls k = some L → Ok2 size L
  | 0, L, h => by cases h; exact hO
  | k + 1, L, h => by
    rw [foldP] at h
    obtain ⟨L', h1, h2⟩ := Option.bind_eq_some_iff.1 h
    exact lineP_ok2 (foldP_ok2 hO k L' h1) h2
theorem parseP_sound {text : ByteArray} {size : Int} {L : List Rw} (h : parseP text = some (size, L)) : Ok2 size L ∧ textR size L = text := by
  unfold parseP at h
  split at h
  · cases h
  · rename_i n sz _
    split at h
    · cases h
    · rename_i hb
      split at h
      · cases h
      · rename_i L' hf
        split at h
        · rename_i ht
          cases h
          exact ⟨foldP_ok2 (new_Ok2 (by omega) (by omega) (by omega) (by omega)) _ _ hf, ht⟩
        · cases h
theorem suf_app (a b : List UInt8) : Lib.hasSuffix (a ++ b) b = true ∧ Lib.trimSuffix (a ++ b) b = a := by
  have h : Lib.hasSuffix (a ++ b) b = true := by
    unfold Lib.hasSuffix
    rw [List.isSuffixOf_iff_suffix]
    exact List.suffix_append a b
  refine ⟨h, ?_⟩
  unfold Lib.trimSuffix
  rw [if_pos h, List.length_append, Nat.add_sub_cancel, List.take_left']
  rfl
theorem suf_none {a b : List UInt8} (h : ¬ b <:+ a) : Lib.hasSuffix a b = false ∧ Lib.trimSuffix a b = a := by
  have h1 : Lib.hasSuffix a b = false := by
    unfold Lib.hasSuffix
    rw [← Bool.not_eq_true, List.isSuffixOf_iff_suffix]
    exact h
  refine ⟨h1, ?_⟩
  unfold Lib.trimSuffix
  rw [h1]
  rfl
theorem sp4_ne {a b c d : Int} : sp4 a b c d ≠ [] := by
  unfold sp4
  simp
theorem sp4_last {a b c d : Int} (hd : Sml d) : ¬ closedB <:+ sp4 a b c d := by
  intro h
  have h1 : closedB.getLast? = (sp4 a b c d).getLast? := by
    obtain ⟨t, ht⟩ := h
    rw [← ht, List.getLast?_append]
    rfl
  have h2 : (sp4 a b c d).getLast? = (Lib.itoa d).getLast? := by
    have hn := itoa_ne hd
    obtain ⟨x, r, e⟩ := List.exists_cons_of_ne_nil hn
    rw [e]
    unfold sp4
    rw [e]
    simp only [List.getLast?_append, List.getLast?_cons_cons, List.getLast?_cons]
    simp
  rw [h2] at h1
  have h3 : (Lib.itoa d).getLast? = some 100 := h1.symm
  have h4 := itoa_mem hd 100 (List.mem_of_getLast? h3)
  exact absurd h4 (by decide)
theorem get4_bs {a b c d : Int} (ha : Sml a) (hb : Sml b) (hc : Sml c) (hd : Sml d) : get4 (bs (sp4 a b c d)) = some (a, b, c, d) := by
  unfold get4
  rw [numR_4 ha hb hc hd]
theorem get2_bs {a b : Int} (ha : Sml a) (hb : Sml b) : get2 (bs (sp2 a b)) = some (a, b) := by
  unfold get2
  rw [numR_2 ha hb]
theorem lineT_bits {i : Nat} {x : Rw} (hi : Sml (i : Int)) (h1 : Sml x.use) (h2 : Sml x.used) (h3 : Sml x.live) : trimC (bs (lineT i x)) = bs (sp4 (i : Int) x.use x.used x.live) ∧ hasC (bs (lineT i x)) = x.closed ∧ (bs (lineT i x)).size ≠ 0 := by
  have hd : (bs (lineT i x)).data.toList = lineT i x := rfl
  unfold trimC hasC
  rw [hd, bs_size]
  have hz : (lineT i x).length ≠ 0 := by
    unfold lineT
    rw [List.length_append]
    have := List.length_pos_iff.2 (sp4_ne (a := (i : Int)) (b := x.use) (c := x.used) (d := x.live))
    omega
  refine ⟨?_, ?_, hz⟩ <;> unfold lineT <;> cases x.closed
  · rw [if_neg (by decide), List.append_nil, (suf_none (sp4_last h3)).2]; rfl
  · rw [if_pos rfl, (suf_app _ _).2]; rfl
  · rw [if_neg (by decide), List.append_nil, (suf_none (sp4_last h3)).1]
  · rw [if_pos rfl, (suf_app _ _).1]
/-- The rows below k of L, nothing behind. -/
def upto (L : List Rw) (k : Nat) : List Rw := L.take k ++ List.replicate (L.length - k) zRw
theorem upto_len (L : List Rw) (k : Nat) (hk : k ≤ L.length) : (upto L k).length = L.length := by
  unfold upto
  rw [List.length_append, List.length_take, List.length_replicate]
  omega
theorem upto_at (L : List Rw) (k : Nat) (hk : k < L.length) : (upto L k).getD k zRw = zRw := by
  unfold upto
  rw [List.getD_eq_getElem?_getD, List.getElem?_append_right (by rw [List.length_take]; omega), List.length_take, List.getElem?_replicate]
  split <;> rfl
theorem upto_set (L : List Rw) (k : Nat) (hk : k < L.length) : (upto L k).set k (L.getD k zRw) = upto L (k + 1) := by
  unfold upto
  have h1 : (L.take k).length = k := by rw [List.length_take]; omega
  rw [List.set_append_right _ _ (by omega), h1, Nat.sub_self]
  obtain ⟨m, hm⟩ : ∃ m, L.length - k = m + 1 := ⟨L.length - k - 1, by omega⟩
  rw [hm, show L.length - (k + 1) = m by omega, List.replicate_succ, List.set_cons_zero, List.getD_eq_getElem?_getD, List.getElem?_eq_getElem hk, List.take_add_one, List.getElem?_eq_getElem hk]
  simp [-List.take_append_getElem]
theorem upto_same (L : List Rw) (k : Nat) (hk : k < L.length) (hz : L.getD k zRw = zRw) : upto L (k + 1) = upto L k := by
  rw [← upto_set L k hk, hz]
  apply List.ext_getElem?
  intro j
  rw [List.getElem?_set]
  split
  · rename_i e
    subst e
    rw [if_pos (by rw [upto_len _ _ (by omega)]; omega)]
    have := upto_at L k hk
    rw [List.getD_eq_getElem?_getD] at this
    have hl : k < (upto L k).length := by rw [upto_len _ _ (by omega)]; exact hk
    rw [List.getElem?_eq_getElem hl] at this ⊢
    exact congrArg some this.symm
  · rfl
theorem upto_zero (L : List Rw) : upto L 0 = List.replicate L.length zRw := by simp [upto]
theorem upto_full (L : List Rw) : upto L L.length = L := by simp [upto]
/-- One line of a text, read. -/
theorem line_step {size : Int} {L : List Rw} (hO : Ok2 size L) {k : Nat} (hk : k < L.length) (hu : (L.getD k zRw).use ≠ 0) : lineP size (upto L k) (bs (lineT k (L.getD k zRw))) = some (upto L (k + 1)) := by
  obtain ⟨s1, s2, s3, s4⟩ := row_sml hO.ok hk
  obtain ⟨t1, t2, t3⟩ := lineT_bits s1 s2 s3 s4
  have hr := hO.ok.rows _ (getD_mem hk)
  have hx := upto_at L k hk
  have hs := upto_set L k hk
  have hl := upto_len L k (by omega)
  generalize hX : L.getD k zRw = X at *
  unfold lineP
  rw [if_neg t3, t1, get4_bs s1 s2 s3 s4]
  simp only
  have ht : (takeR (upto L k) (k : Int) X.use).1 = 0 := by
    unfold takeR there
    rw [if_pos (by rw [hl]; omega)]
    simp only [Int.toNat_natCast]
    rw [if_neg (by omega), hx, if_neg (by decide)]
  rw [if_neg (by rw [ht]; decide), if_neg (by omega), if_neg (by omega), if_neg (by omega), t2, Int.toNat_natCast]
  rw [← hs]
theorem lines_pre (L : List Rw) : ∀ j m, linesK L j <+: linesK L (j + m)
  | j, 0 => List.prefix_refl _
  | j, m + 1 => (lines_pre L j m).trans (by show linesK L (j + m) <+: linesK L (j + m + 1); rw [linesK]; exact List.prefix_append _ _)
theorem fold_lines {size : Int} {L : List Rw} (hO : Ok2 size L) (ls : List ByteArray) (h0 : ByteArray) (tl : List ByteArray) (hls : ls = h0 :: ((linesK L L.length).map bs ++ tl)) : ∀ j, j ≤ L.length → foldP size (List.replicate L.length zRw) ls (linesK L j).length = some (upto L j)
  | 0, _ => by rw [upto_zero]; rfl
  | j + 1, hj => by
    have ih := fold_lines hO ls h0 tl hls j (by omega)
    rw [linesK]
    by_cases hu : (L.getD j zRw).use = 0
    · rw [if_pos hu, List.append_nil, ih, upto_same L j (by omega) (hO.zr _ (getD_mem (by omega)) hu)]
    · rw [if_neg hu, List.length_append, List.length_singleton, foldP, ih]
      have hg : ls.getD ((linesK L j).length + 1) ByteArray.empty = bs (lineT j (L.getD j zRw)) := by
        have hp := lines_pre L (j + 1) (L.length - (j + 1))
        rw [show j + 1 + (L.length - (j + 1)) = L.length by omega] at hp
        have hi : (linesK L (j + 1))[(linesK L j).length]? = some (lineT j (L.getD j zRw)) := by
          rw [linesK, if_neg hu, List.getElem?_append_right (Nat.le_refl _), Nat.sub_self]; rfl
        have hi2 : (linesK L L.length)[(linesK L j).length]? = some (lineT j (L.getD j zRw)) := by
          obtain ⟨t, ht⟩ := hp
          rw [← ht, List.getElem?_append_left (List.getElem?_eq_some_iff.1 hi).1]
          exact hi
        have hlt := (List.getElem?_eq_some_iff.1 hi2).1
        rw [hls, List.getD_eq_getElem?_getD, List.getElem?_cons_succ, List.getElem?_append_left (by rw [List.length_map]; exact hlt), List.getElem?_map, hi2]
        rfl
      rw [hg]
      exact line_step hO (by omega) hu
theorem textR_lines (size : Int) (L : List Rw) : textR size L = bs (endl (sp2 (L.length : Int) size :: linesK L L.length)) := by
  rw [← textK_lines]; rfl
theorem parseP_text {size : Int} {L : List Rw} (hO : Ok2 size L) : parseP (textR size L) = some (size, L) := by
  have h1 := hO.ok.lo; have h2 := hO.ok.hi; have h3 := hO.ok.len; have h4 := hO.pos
  have sn : Sml (L.length : Int) := ⟨by omega, by omega⟩
  have ss : Sml size := ⟨by omega, by omega⟩
  have hls : lsP (textR size L) = bs (sp2 (L.length : Int) size) :: ((linesK L L.length).map bs ++ [bs []]) := by
    rw [lsP_C, textR_lines]
    show (cutC 10 (endl _)).map mkB = _
    rw [cut_endl]
    · simp [mkB, bs]
    · intro l hl
      rcases List.mem_cons.1 hl with rfl | hl
      · exact sp2_no10 sn ss
      · exact lines_no10 hO.ok _ (Nat.le_refl _) l hl
  have hf := fold_lines hO (lsP (textR size L)) _ _ hls L.length (Nat.le_refl _)
  unfold parseP
  rw [show (lsP (textR size L)).getD 0 ByteArray.empty = bs (sp2 (L.length : Int) size) by rw [hls]; rfl, get2_bs sn ss]
  simp only
  rw [if_neg (by omega)]
  have hlen : (lsP (textR size L)).length - 1 = (linesK L L.length).length + 1 := by rw [hls]; simp
  rw [hlen, Int.toNat_natCast, foldP, hf]
  have hg : (lsP (textR size L)).getD ((linesK L L.length).length + 1) ByteArray.empty = bs [] := by
    rw [hls, List.getD_eq_getElem?_getD, List.getElem?_cons_succ, List.getElem?_append_right (by rw [List.length_map]; exact Nat.le_refl _), List.length_map, Nat.sub_self]
    rfl
  rw [hg, upto_full]
  show (match lineP size L (bs []) with | none => none | some L => _) = _
  have hl : lineP size L (bs []) = some L := by unfold lineP; rw [if_pos (show (bs []).size = 0 from rfl)]
  rw [hl]
  simp only [if_true]
end Go.Proofs.YtlpnggaeepjjfaaGreatDoor.Bo
