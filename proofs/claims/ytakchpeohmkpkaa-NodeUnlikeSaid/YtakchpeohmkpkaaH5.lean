/- node.Pack. -/
import Derived.Test.YtakchpeohmkpkaaQ5
import Derived.Test.YtakchpeohmkpkaaH4
namespace Go.Proofs.Ytakchpeohmkpkaa.Q
open Go.RowKit Go.Proofs.YtakchpeohmkpkaaW.PrintWords Go.Proofs.YtakchpeohmkpkaaW.PrintLast Go.Proofs.YtakchpeohmkpkaaW.PrintMore
set_option linter.unusedVariables false
set_option linter.unusedSimpArgs false

def packed (k v : ByteArray) (g : Bool) : List Int := leBytes (if g then 2 else 1) 1 ++ leBytes k.size 1 ++ bytesOf k ++ leBytes v.size 2 ++ bytesOf v
def node_Pack.f (k v : ByteArray) (g : Bool) : Option (List Int × Int) := (node_Right.f k v g).bind fun b => if b = true then some (packed k v g, 0) else some ([], 22)

theorem right_sizes {k v : ByteArray} {g : Bool} (h : node_Right.f k v g = some true) : 1 ≤ k.size ∧ k.size ≤ 64 ∧ v.size ≤ 256 := by
  unfold node_Right.f at h
  by_cases h1 : (k.size : Int) ≥ 1
  · rw [if_pos h1] at h
    by_cases h2 : (k.size : Int) ≤ 64
    · rw [if_pos h2] at h
      by_cases h3 : (v.size : Int) ≤ 256
      · omega
      · rw [if_neg h3] at h; cases h
    · rw [if_neg h2] at h; cases h
  · rw [if_neg h1] at h; cases h

set_option maxHeartbeats 8000000 in
set_option maxRecDepth 100000 in
theorem pack_refused (k v : ByteArray) (g : Bool) (w : World) (h : node_Right.f k v g = some false) :
    Calls Try.prog 18 #[.agg #[.string k, .string v, .bool g]] w fun e w' => ∃ v0_ : Value, e = .returned (.tuple #[v0_, .int .i64 22]) ∧ Kd.R (Kd.int .u8) 5 w' w.heap.size (fun _ => True) v0_ [] ∧ Below w.heap.size w w' := by
  have hu32 := Try.underlying32
  have HR := Aside0.mk h
  clear h
  go_enter Try.func18, Try.ntmps18
  go_wp2_with (first
    | (go_at_call 22; refine (node_Right.calls k v g false _ HR.out).mono ?_; rintro e w1 ⟨rfl, hb1⟩))
  go_ret2
  exact ⟨_, rfl, Kd.R_nil _ _ _ _ _, (Below.refl _ _).alloc (Nat.le_refl _) _ |>.trans (hb1.mono (by simp))⟩

/-- A node lies at block b. -/
def NodeAt (w : World) (b : Nat) (k v : ByteArray) (g : Bool) : Prop := w.heap[b]? = some (.cells #[.string k, .string v, .bool g] 32 (0, 0))
theorem NodeAt.fresh (w : World) (k v : ByteArray) (g : Bool) : NodeAt (w.alloc (.cells #[.string k, .string v, .bool g] 32)) w.heap.size k v g := by
  show (w.heap.push _)[w.heap.size]? = _
  rw [Array.getElem?_push_size]
theorem NodeAt.lt {w : World} {b : Nat} {k v : ByteArray} {g : Bool} (h : NodeAt w b k v g) : b < w.heap.size := (Array.getElem?_eq_some_iff.1 h).1
theorem NodeAt.below {w w1 : World} {B b : Nat} {k v : ByteArray} {g : Bool} (h : NodeAt w b k v g) (hb : Below B w w1) (hB : b < B) : NodeAt w1 b k v g := (hb.block b hB).trans h
theorem NodeAt.alloc {w : World} {b : Nat} {k v : ByteArray} {g : Bool} (h : NodeAt w b k v g) (o : Obj) : NodeAt (w.alloc o) b k v g := h.below (below_alloc (Below.refl _ _) o) h.lt
theorem NodeAt.cells {w : World} {b : Nat} {k v : ByteArray} {g : Bool} (h : NodeAt w b k v g) : w.cell? ⟨b, 0, none⟩ = some (.string k) ∧ w.cell? ⟨b, 1, none⟩ = some (.string v) ∧ w.cell? ⟨b, 2, none⟩ = some (.bool g) := by
  unfold NodeAt at h
  simp [World.cell?, h]

set_option maxHeartbeats 8000000 in
set_option maxRecDepth 100000 in
theorem pack_true (k v : ByteArray) (w : World) (h : node_Right.f k v true = some true) :
    Calls Try.prog 18 #[.agg #[.string k, .string v, .bool true]] w fun e w' => ∃ v0_ : Value, e = .returned (.tuple #[v0_, .int .i64 0]) ∧ Kd.R (Kd.int .u8) 5 w' w.heap.size (fun _ => True) v0_ (packed k v true) ∧ Below w.heap.size w w' := by
  have hu32 := Try.underlying32
  obtain ⟨hk1, hk2, hv⟩ := right_sizes h
  have HR := Aside0.mk h
  clear h
  have HPa := Aside0.mk (show bits_Put.f (IntKind.u64.wrap 2) 1 = some (leBytes 2 1) from rfl)
  have HPb := Aside0.mk (show bits_Put.f (IntKind.u64.wrap (k.size : Int)) 1 = some (leBytes k.size 1) by rw [u64_wrap (by omega) (by omega)]; rfl)
  have HPc := Aside0.mk (show bits_Put.f (IntKind.u64.wrap (v.size : Int)) 2 = some (leBytes v.size 2) by rw [u64_wrap (by omega) (by omega)]; rfl)
  have HLa := Aside0.mk (show ([] : List Int).length ≤ 1000000 by simp)
  have HLb := Aside0.mk (show ([] ++ leBytes 2 1 : List Int).length ≤ 1000000 by simp [leBytes])
  have HMa := Aside0.mk (show (leBytes 2 1).length ≤ 8 by simp [leBytes])
  have HMb := Aside0.mk (show (leBytes k.size 1).length ≤ 8 by simp [leBytes])
  have HMc := Aside0.mk (show (leBytes v.size 2).length ≤ 8 by simp [leBytes])
  go_enter Try.func18, Try.ntmps18
  go_wp2_with (first
    | (go_at_call 22; refine (node_Right.calls k v true true _ HR.out).mono ?_; rintro e w1 ⟨rfl, hb1⟩
       have HW1 := Aside0.mk (Writer.fresh w1); have hc1 := HW1.out.cell
       have HN1 := Aside0.mk ((NodeAt.fresh w k v true).below hb1 (by simp))
       have HB1 := Aside0.mk ((below_alloc (Below.refl w.heap.size w) (.cells #[.string k, .string v, .bool true] 32)).trans (hb1.mono (by simp)))
       obtain ⟨n1a, n1b, n1c⟩ := (HN1.out.alloc (.cells #[.slice none 0 0] 69)).cells
       clear hb1)
    | (go_at_call 46; (with_reducible refine (put_calls w1.heap.size w1.heap.size _ [] (leBytes 2 1) 2 1 _ HW1.out HLa.out HMa.out HPa.out).mono ?_); rintro e w2 ⟨rfl, v2, hw2, hb2, _⟩
       have HW2 := Aside0.mk hw2; have hc2 := HW2.out.cell; have HB2 := Aside0.mk ((below_alloc (Below.refl w1.heap.size w1) (.cells #[.slice none 0 0] 69)).trans hb2)
       have HN2 := Aside0.mk (HN1.out.below HB2.out HN1.out.lt)
       obtain ⟨n2a, n2b, n2c⟩ := HN2.out.cells
       clear hw2 hb2 hc1 n1a n1b n1c)
    | (go_at_call 46; (with_reducible refine (put_calls w1.heap.size w1.heap.size _ _ (leBytes k.size 1) k.size 1 _ HW2.out HLb.out HMb.out HPb.out).mono ?_); rintro e w3 ⟨rfl, v3, hw3, hb3, _⟩
       have HW3 := Aside0.mk hw3; have hc3 := HW3.out.cell; have HB3 := Aside0.mk (HB2.out.trans hb3)
       have HN3 := Aside0.mk (HN1.out.below HB3.out HN1.out.lt)
       obtain ⟨n3a, n3b, n3c⟩ := HN3.out.cells
       clear hw3 hb3 hc2 n2a n2b n2c))
  go_region_law (
       refine str_append_step (W := w3.drew) w1.heap.size (by rfl) (.tmp 25) (.tmp 27) 34 9 5 rfl Try.underlying34 Try.underlying9 info5 v3 _ k (by first | rfl | (simp [Act.eval]; done)) (by first | rfl | (simp [Act.eval]; done)) (Kd.R_drew HW3.out.row) HB3.out.size (by simp [leBytes]; omega) ?_
       intro v4 w4 ho hg
       obtain ⟨A4, c4, hv4⟩ := Kd.R_slice ho
       obtain ⟨xs4, hx4⟩ : ∃ xs, xs = [] ++ leBytes 2 1 ++ leBytes k.size 1 ++ bytesOf k := ⟨_, rfl⟩
       rw [← hx4] at ho hv4
       obtain ⟨n4, hn4⟩ : ∃ n, n = xs4.length := ⟨_, rfl⟩
       rw [← hn4] at hv4
       subst hv4
       obtain ⟨hc4, hf4, hw4⟩ := (Writer.below HW3.out (below_drew (Below.refl _ _))).stored hg ho
       have hbb : Below w1.heap.size w1 w4 := (below_drew HB3.out).grown hg HB3.out.size (own_base (Kd.own_of_R HW3.out.row))
       have HB4 := Aside0.mk (hbb.setCell (p := ⟨w1.heap.size, 0, none⟩) (Nat.le_refl _) (.slice A4 n4 c4))
       have HW4 := Aside0.mk hw4; have hd4 := HW4.out.cell
       obtain ⟨n4a, n4b, n4c⟩ := (HN1.out.below hbb HN1.out.lt).cells
       have HN4 := Aside0.mk (HN1.out.below HB4.out HN1.out.lt)
       obtain ⟨m4a, m4b, m4c⟩ := HN4.out.cells
       have HX4 := Aside0.mk hx4
       have HLd := Aside0.mk (show xs4.length ≤ 1000000 by rw [hx4]; simp [leBytes, bytesOf_length]; omega)
       have HL4 := Aside0.mk hn4
       clear ho hg hw4 hbb hc3 n3a n3b n3c hx4 hn4)
  all_goals
   go_wp2_with (first
    | (go_at_call 46; (with_reducible refine (put_calls w1.heap.size w1.heap.size _ _ (leBytes v.size 2) v.size 2 _ HW4.out HLd.out HMc.out HPc.out).mono ?_); rintro e w5 ⟨rfl, v5, hw5, hb5, _⟩
       have HW5 := Aside0.mk hw5; have hc5 := HW5.out.cell; have HB5 := Aside0.mk (HB4.out.trans hb5)
       have HN5 := Aside0.mk (HN1.out.below HB5.out HN1.out.lt)
       obtain ⟨n5a, n5b, n5c⟩ := HN5.out.cells
       clear hw5 hb5 hd4 hc4 hf4 n4a n4b n4c m4a m4b m4c))
   go_region_law (
      refine str_append_step (W := w5.drew) w1.heap.size (by rfl) (.tmp 39) (.tmp 41) 34 9 5 rfl Try.underlying34 Try.underlying9 info5 v5 (xs4 ++ leBytes v.size 2) v (by first | rfl | (simp [Act.eval]; done)) (by first | rfl | (simp [Act.eval]; done)) (Kd.R_drew HW5.out.row) HB5.out.size (by rw [HX4.out]; simp [leBytes, bytesOf_length]; omega) ?_
      intro v6 w6 ho hg
      have HO6 := Aside0.mk ho
      have HB6 := Aside0.mk ((below_drew HB5.out).grown hg HB5.out.size (own_base (Kd.own_of_R HW5.out.row)))
      clear ho hg)
   all_goals
    go_wp2
    go_ret2
    refine ⟨v6, rfl, ?_, HB1.out.trans (HB6.out.mono HB1.out.size)⟩
    have h6 := Kd.R_lower HO6.out HB1.out.size
    rw [HX4.out] at h6
    simpa [packed, List.append_assoc] using h6

set_option maxHeartbeats 8000000 in
set_option maxRecDepth 100000 in
theorem pack_false (k v : ByteArray) (w : World) (h : node_Right.f k v false = some true) :
    Calls Try.prog 18 #[.agg #[.string k, .string v, .bool false]] w fun e w' => ∃ v0_ : Value, e = .returned (.tuple #[v0_, .int .i64 0]) ∧ Kd.R (Kd.int .u8) 5 w' w.heap.size (fun _ => True) v0_ (packed k v false) ∧ Below w.heap.size w w' := by
  have hu32 := Try.underlying32
  obtain ⟨hk1, hk2, hv⟩ := right_sizes h
  have HR := Aside0.mk h
  clear h
  have HPa := Aside0.mk (show bits_Put.f (IntKind.u64.wrap 1) 1 = some (leBytes 1 1) from rfl)
  have HPb := Aside0.mk (show bits_Put.f (IntKind.u64.wrap (k.size : Int)) 1 = some (leBytes k.size 1) by rw [u64_wrap (by omega) (by omega)]; rfl)
  have HPc := Aside0.mk (show bits_Put.f (IntKind.u64.wrap (v.size : Int)) 2 = some (leBytes v.size 2) by rw [u64_wrap (by omega) (by omega)]; rfl)
  have HLa := Aside0.mk (show ([] : List Int).length ≤ 1000000 by simp)
  have HLb := Aside0.mk (show ([] ++ leBytes 1 1 : List Int).length ≤ 1000000 by simp [leBytes])
  have HMa := Aside0.mk (show (leBytes 1 1).length ≤ 8 by simp [leBytes])
  have HMb := Aside0.mk (show (leBytes k.size 1).length ≤ 8 by simp [leBytes])
  have HMc := Aside0.mk (show (leBytes v.size 2).length ≤ 8 by simp [leBytes])
  go_enter Try.func18, Try.ntmps18
  go_wp2_with (first
    | (go_at_call 22; refine (node_Right.calls k v false true _ HR.out).mono ?_; rintro e w1 ⟨rfl, hb1⟩
       have HW1 := Aside0.mk (Writer.fresh w1); have hc1 := HW1.out.cell
       have HN1 := Aside0.mk ((NodeAt.fresh w k v false).below hb1 (by simp))
       have HB1 := Aside0.mk ((below_alloc (Below.refl w.heap.size w) (.cells #[.string k, .string v, .bool false] 32)).trans (hb1.mono (by simp)))
       obtain ⟨n1a, n1b, n1c⟩ := (HN1.out.alloc (.cells #[.slice none 0 0] 69)).cells
       clear hb1)
    | (go_at_call 46; (with_reducible refine (put_calls w1.heap.size w1.heap.size _ [] (leBytes 1 1) 1 1 _ HW1.out HLa.out HMa.out HPa.out).mono ?_); rintro e w2 ⟨rfl, v2, hw2, hb2, _⟩
       have HW2 := Aside0.mk hw2; have hc2 := HW2.out.cell; have HB2 := Aside0.mk ((below_alloc (Below.refl w1.heap.size w1) (.cells #[.slice none 0 0] 69)).trans hb2)
       have HN2 := Aside0.mk (HN1.out.below HB2.out HN1.out.lt)
       obtain ⟨n2a, n2b, n2c⟩ := HN2.out.cells
       clear hw2 hb2 hc1 n1a n1b n1c)
    | (go_at_call 46; (with_reducible refine (put_calls w1.heap.size w1.heap.size _ _ (leBytes k.size 1) k.size 1 _ HW2.out HLb.out HMb.out HPb.out).mono ?_); rintro e w3 ⟨rfl, v3, hw3, hb3, _⟩
       have HW3 := Aside0.mk hw3; have hc3 := HW3.out.cell; have HB3 := Aside0.mk (HB2.out.trans hb3)
       have HN3 := Aside0.mk (HN1.out.below HB3.out HN1.out.lt)
       obtain ⟨n3a, n3b, n3c⟩ := HN3.out.cells
       clear hw3 hb3 hc2 n2a n2b n2c))
  go_region_law (
       refine str_append_step (W := w3.drew) w1.heap.size (by rfl) (.tmp 25) (.tmp 27) 34 9 5 rfl Try.underlying34 Try.underlying9 info5 v3 _ k (by first | rfl | (simp [Act.eval]; done)) (by first | rfl | (simp [Act.eval]; done)) (Kd.R_drew HW3.out.row) HB3.out.size (by simp [leBytes]; omega) ?_
       intro v4 w4 ho hg
       obtain ⟨A4, c4, hv4⟩ := Kd.R_slice ho
       obtain ⟨xs4, hx4⟩ : ∃ xs, xs = [] ++ leBytes 1 1 ++ leBytes k.size 1 ++ bytesOf k := ⟨_, rfl⟩
       rw [← hx4] at ho hv4
       obtain ⟨n4, hn4⟩ : ∃ n, n = xs4.length := ⟨_, rfl⟩
       rw [← hn4] at hv4
       subst hv4
       obtain ⟨hc4, hf4, hw4⟩ := (Writer.below HW3.out (below_drew (Below.refl _ _))).stored hg ho
       have hbb : Below w1.heap.size w1 w4 := (below_drew HB3.out).grown hg HB3.out.size (own_base (Kd.own_of_R HW3.out.row))
       have HB4 := Aside0.mk (hbb.setCell (p := ⟨w1.heap.size, 0, none⟩) (Nat.le_refl _) (.slice A4 n4 c4))
       have HW4 := Aside0.mk hw4; have hd4 := HW4.out.cell
       obtain ⟨n4a, n4b, n4c⟩ := (HN1.out.below hbb HN1.out.lt).cells
       have HN4 := Aside0.mk (HN1.out.below HB4.out HN1.out.lt)
       obtain ⟨m4a, m4b, m4c⟩ := HN4.out.cells
       have HX4 := Aside0.mk hx4
       have HLd := Aside0.mk (show xs4.length ≤ 1000000 by rw [hx4]; simp [leBytes, bytesOf_length]; omega)
       have HL4 := Aside0.mk hn4
       clear ho hg hw4 hbb hc3 n3a n3b n3c hx4 hn4)
  all_goals
   go_wp2_with (first
    | (go_at_call 46; (with_reducible refine (put_calls w1.heap.size w1.heap.size _ _ (leBytes v.size 2) v.size 2 _ HW4.out HLd.out HMc.out HPc.out).mono ?_); rintro e w5 ⟨rfl, v5, hw5, hb5, _⟩
       have HW5 := Aside0.mk hw5; have hc5 := HW5.out.cell; have HB5 := Aside0.mk (HB4.out.trans hb5)
       have HN5 := Aside0.mk (HN1.out.below HB5.out HN1.out.lt)
       obtain ⟨n5a, n5b, n5c⟩ := HN5.out.cells
       clear hw5 hb5 hd4 hc4 hf4 n4a n4b n4c m4a m4b m4c))
   go_region_law (
      refine str_append_step (W := w5.drew) w1.heap.size (by rfl) (.tmp 39) (.tmp 41) 34 9 5 rfl Try.underlying34 Try.underlying9 info5 v5 (xs4 ++ leBytes v.size 2) v (by first | rfl | (simp [Act.eval]; done)) (by first | rfl | (simp [Act.eval]; done)) (Kd.R_drew HW5.out.row) HB5.out.size (by rw [HX4.out]; simp [leBytes, bytesOf_length]; omega) ?_
      intro v6 w6 ho hg
      have HO6 := Aside0.mk ho
      have HB6 := Aside0.mk ((below_drew HB5.out).grown hg HB5.out.size (own_base (Kd.own_of_R HW5.out.row)))
      clear ho hg)
   all_goals
    go_wp2
    go_ret2
    refine ⟨v6, rfl, ?_, HB1.out.trans (HB6.out.mono HB1.out.size)⟩
    have h6 := Kd.R_lower HO6.out HB1.out.size
    rw [HX4.out] at h6
    simpa [packed, List.append_assoc] using h6

theorem node_Pack.calls (a0_0 : ByteArray) (a0_1 : ByteArray) (a0_2 : Bool) (r1 : List Int) (r2 : Int) (w : World) (h : node_Pack.f a0_0 a0_1 a0_2 = some (r1, r2)) :
    Calls Try.prog 18 #[.agg #[.string a0_0, .string a0_1, .bool a0_2]] w fun e w' => ∃ v0_ : Value, e = .returned (.tuple #[v0_, .int .i64 r2]) ∧ Kd.R (Kd.int .u8) 5 w' w.heap.size (fun _ => True) v0_ r1 ∧ Below w.heap.size w w' := by
  unfold node_Pack.f at h
  obtain ⟨b, hb, h⟩ := Option.bind_eq_some_iff.mp h
  cases b with
  | false =>
    cases h
    exact pack_refused _ _ _ _ hb
  | true =>
    cases h
    cases a0_2 with
    | false => exact pack_false _ _ _ hb
    | true => exact pack_true _ _ _ hb
end Go.Proofs.Ytakchpeohmkpkaa.Q
