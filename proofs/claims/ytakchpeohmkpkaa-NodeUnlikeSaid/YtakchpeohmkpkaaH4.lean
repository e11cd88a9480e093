/- node.Mark, node.Pack, node.Inode. -/
import Derived.Test.YtakchpeohmkpkaaH2
import Derived.Deep.RegionLaw
namespace Go.Proofs.Ytakchpeohmkpkaa.Q
open Go.RowKit Go.Proofs.YtakchpeohmkpkaaW.PrintWords Go.Proofs.YtakchpeohmkpkaaW.PrintLast Go.Proofs.YtakchpeohmkpkaaW.PrintMore
set_option linter.unusedVariables false
set_option linter.unusedSimpArgs false

theorem Writer.fresh (w : World) : Writer (w.alloc (.cells #[.slice none 0 0] 69)) w.heap.size w.heap.size (.slice none 0 0) [] :=
  ⟨by show (w.heap.push _)[w.heap.size]? = _; rw [Array.getElem?_push_size], Kd.R_nil _ _ _ _ _, Nat.le_refl _⟩
theorem u64_wrap {n : Int} (h0 : 0 ≤ n) (h1 : n < 18446744073709551616) : IntKind.u64.wrap n = n := by
  rw [IntKind.wrap_u64]
  omega

def node_Mark.f (a0 a1 : Int) : Option (List Int × Int) := if a1 < 1 ∨ 16 < a1 then some ([], 22) else some (leBytes 3 1 ++ leBytes a0 8 ++ leBytes a1 1, 0)
set_option maxHeartbeats 8000000 in
set_option maxRecDepth 100000 in
theorem node_Mark.calls (a0 : Int) (a1 : Int) (r1 : List Int) (r2 : Int) (w : World) (h : node_Mark.f a0 a1 = some (r1, r2)) :
    Calls Try.prog 20 #[.int .u64 a0, .int .i64 a1] w fun e w' => ∃ v0_ : Value, e = .returned (.tuple #[v0_, .int .i64 r2]) ∧ Kd.R (Kd.int .u8) 5 w' w.heap.size (fun _ => True) v0_ r1 ∧ Below w.heap.size w w' := by
  unfold node_Mark.f at h
  split at h
  · cases h
    rename_i hc
    have hd : decide (a1 < 1) = true ∨ decide (a1 < 1) = false ∧ decide (16 < a1) = true := by
      by_cases h1 : a1 < 1
      · exact .inl (decide_eq_true h1)
      · exact .inr ⟨decide_eq_false h1, decide_eq_true (by omega)⟩
    rcases hd with hd | ⟨hd, he⟩
    · go_enter Try.func20, Try.ntmps20
      go_wp2
      go_ret2
      exact ⟨_, rfl, Kd.R_nil _ _ _ _ _, Below.refl _ _⟩
    · go_enter Try.func20, Try.ntmps20
      go_wp2
      go_ret2
      exact ⟨_, rfl, Kd.R_nil _ _ _ _ _, Below.refl _ _⟩
  · cases h
    rename_i hc
    have hd : decide (a1 < 1) = false := decide_eq_false (by omega)
    have he : decide (16 < a1) = false := decide_eq_false (by omega)
    have HW0 := Aside0.mk (Writer.fresh w)
    have hc0 := HW0.out.cell
    go_enter Try.func20, Try.ntmps20
    go_wp2_with (first
      | (go_at_call 46; refine (put_calls w.heap.size w.heap.size _ [] (leBytes 3 1) 3 1 _ HW0.out (by simp) (by simp [leBytes]) rfl).mono ?_; rintro e w1 ⟨rfl, v1, hw1, hb1, _⟩))
    have HW1 := Aside0.mk hw1
    have HB1 := Aside0.mk ((Below.refl w.heap.size w).alloc (Nat.le_refl _) (.cells #[.slice none 0 0] 69) |>.trans hb1)
    have hc1 := hw1.cell
    clear hw1 hb1 hc0 HW0
    go_region_law (first
      | (refine goes_ Try.func48 (by kernel_rfl) rfl #[.int .u64 a0, .int .i64 8] (by rfl) rfl rfl (by first | rfl | (simp [Act.eval, Act.put]; done) | (simp [Act.eval]; done)) ?_
         refine (bits_Put.calls a0 8 (leBytes a0 8) _ rfl).mono ?_
         rintro e w2 ⟨v0, rfl, ho0, hb0⟩
         refine ⟨_, rfl, ?_⟩
         obtain ⟨A0, c0, rfl, hc0, hr0⟩ := Kd.R_reads ho0
         have hb2 : Below w1.heap.size w1 w2 := (below_drew (Below.refl w1.heap.size w1)).trans hb0
         have HW2 := Aside0.mk (HW1.out.below hb2)
         have hc2 := HW2.out.cell
         have HR0 := Aside0.mk hr0
         have HB2 := Aside0.mk (HB1.out.trans (hb2.mono HB1.out.size))
         clear ho0 hb0 hb2 hr0)
      | (refine Kd.R_append_rows_step (Kd.int .u8) (w0 := w) w.heap.size rfl (.tmp 21) (.tmp 23) 34 5 (.int .u8 0) 1 rfl Try.underlying34 info5 rfl (by decide) (by omega) v1 _ (leBytes a0 8) A0 _ c0 (fun _ => True) (fun _ => False) (by first | rfl | (simp [Act.eval]; done)) (by first | rfl | (simp [Act.eval]; done)) HW2.out.row HR0.out (fun x cs hx => hx) (fun _ hk => hk.elim) (fun _ _ => trivial) HB2.out HB2.out.size (by simp [leBytes]) ?_
         intro v2 w3 ho hb hg hat
         obtain ⟨A1, c1, rfl⟩ := Kd.R_slice ho
         obtain ⟨hc3, hf3, hw3⟩ := HW2.out.stored hg ho
         have HW3 := Aside0.mk hw3
         have HB3 := Aside0.mk (hb.setCell (p := ⟨w.heap.size, 0, none⟩) (Nat.le_refl _) (.slice A1 ([] ++ leBytes 3 1 ++ leBytes a0 8).length c1))
         clear hw3 hb hg hat ho))
    all_goals
      have hw4 := HW3.out
      have hb4 := HB3.out
      simp only [List.nil_append, List.length_append] at hw4 hb4
      clear HW3 HB3 HW2 HB2 hc3 hf3 hc2 hc1 HW1 HB1 HR0 hc0
      generalize w3.setCell _ _ = w4 at hw4 hb4 ⊢
      go_wp2_with (first
        | (go_at_call 46; refine (put_calls w.heap.size w.heap.size _ _ (leBytes a1 1) a1 1 _ hw4 (by simp [leBytes]) (by simp [leBytes]) (by rw [u64_wrap (by omega) (by omega)]; rfl)).mono ?_; rintro e w5 ⟨rfl, v5, hw5, hb5, _⟩; have hc5 := hw5.cell))
      go_ret2
      exact ⟨_, rfl, hw5.row, hb4.trans hb5⟩
end Go.Proofs.Ytakchpeohmkpkaa.Q
