/- H5, S2, S3, K10, A9, H1a, H1, K3, H6, K4 -/
import Derived.Laws.AppendOwn
import Derived.Lib.IndexAny
import Derived.Lib.AsciiSet
import Derived.Lib.OthersKept
import Derived.Lib.Bytealg
import Derived.Lib.IndexBytes
import Derived.Laws.RangeAny
import Derived.Laws.Runes
import Derived.Laws.Strings3
import Derived.Laws.ResultCell
import Derived.Deep.WholeRow
import Derived.WalkMore
import Derived.Deep.RegionLaw
import Derived.Test.YtakchpeohmkpkaaUa
import Derived.Test.YtakchpeohmkpkaaUb
namespace Go.Proofs.Ytakchpeohmkpkaa.Q
open Go.RowKit Go.Proofs.YtakchpeohmkpkaaW.PrintWords Go.Proofs.YtakchpeohmkpkaaW.PrintLast Go.Proofs.YtakchpeohmkpkaaW.PrintMore
set_option linter.unusedVariables false
set_option linter.unusedSimpArgs false

def packed (k v : ByteArray) (g : Bool) : List Int := leBytes (if g then 2 else 1) 1 ++ leBytes k.size 1 ++ bytesOf k ++ leBytes v.size 2 ++ bytesOf v
def node_Pack.f (k v : ByteArray) (g : Bool) : Option (List Int × Int) := (node_Right.f k v g).bind fun b => if b = true then some (packed k v g, 0) else some ([], 22)

theorem right_sizes {k v : ByteArray} {g : Bool} (h : node_Right.f k v g = some true) : 1 ≤ k.size ∧ k.size ≤ 64 ∧ v.size ≤ 256 := by
  unfold node_Right.f at h
  by_cases h1 : (k.size : Int) ≥ 1
  · rw [if_pos h1] at h
    by_cases h2 : (k.size : Int) ≤ 64
    · rw [if_pos h2] at h
      by_cases h3 : (v.size : Int) ≤ 256
      · omega
      · rw [if_neg h3] at h; cases h
    · rw [if_neg h2] at h; cases h
  · rw [if_neg h1] at h; cases h

set_option maxHeartbeats 8000000 in
set_option maxRecDepth 100000 in
theorem pack_refused (k v : ByteArray) (g : Bool) (w : World) (h : node_Right.f k v g = some false) :
    Calls Try.prog 18 #[.agg #[.string k, .string v, .bool g]] w fun e w' => ∃ v0_ : Value, e = .returned (.tuple #[v0_, .int .i64 22]) ∧ Kd.R (Kd.int .u8) 5 w' w.heap.size (fun _ => True) v0_ [] ∧ Below w.heap.size w w' := by
  have hu32 := Try.underlying32
  have HR := Aside0.mk h
  clear h
  go_enter Try.func18, Try.ntmps18
  go_wp2_with (first
    | (go_at_call 22; refine (node_Right.calls k v g false _ HR.out).mono ?_; rintro e w1 ⟨rfl, hb1⟩))
  go_ret2
  exact ⟨_, rfl, Kd.R_nil _ _ _ _ _, (Below.refl _ _).alloc (Nat.le_refl _) _ |>.trans (hb1.mono (by simp))⟩

/-- A node lies at block b. -/
def NodeAt (w : World) (b : Nat) (k v : ByteArray) (g : Bool) : Prop := w.heap[b]? = some (.cells #[.string k, .string v, .bool g] 32 (0, 0))
theorem NodeAt.fresh (w : World) (k v : ByteArray) (g : Bool) : NodeAt (w.alloc (.cells #[.string k, .string v, .bool g] 32)) w.heap.size k v g := by
  show (w.heap.push _)[w.heap.size]? = _
  rw [Array.getElem?_push_size]
theorem NodeAt.lt {w : World} {b : Nat} {k v : ByteArray} {g : Bool} (h : NodeAt w b k v g) : b < w.heap.size := (Array.getElem?_eq_some_iff.1 h).1
theorem NodeAt.below {w w1 : World} {B b : Nat} {k v : ByteArray} {g : Bool} (h : NodeAt w b k v g) (hb : Below B w w1) (hB : b < B) : NodeAt w1 b k v g := (hb.block b hB).trans h
theorem NodeAt.alloc {w : World} {b : Nat} {k v : ByteArray} {g : Bool} (h : NodeAt w b k v g) (o : Obj) : NodeAt (w.alloc o) b k v g := h.below (below_alloc (Below.refl _ _) o) h.lt
theorem NodeAt.cells {w : World} {b : Nat} {k v : ByteArray} {g : Bool} (h : NodeAt w b k v g) : w.cell? ⟨b, 0, none⟩ = some (.string k) ∧ w.cell? ⟨b, 1, none⟩ = some (.string v) ∧ w.cell? ⟨b, 2, none⟩ = some (.bool g) := by
  unfold NodeAt at h
  simp [World.cell?, h]

set_option maxHeartbeats 8000000 in
set_option maxRecDepth 100000 in
theorem pack_true (k v : ByteArray) (w : World) (h : node_Right.f k v true = some true) :
    Calls Try.prog 18 #[.agg #[.string k, .string v, .bool true]] w fun e w' => ∃ v0_ : Value, e = .returned (.tuple #[v0_, .int .i64 0]) ∧ Kd.R (Kd.int .u8) 5 w' w.heap.size (fun _ => True) v0_ (packed k v true) ∧ Below w.heap.size w w' := by
  have hu32 := Try.underlying32
  obtain ⟨hk1, hk2, hv⟩ := right_sizes h
  have HR := Aside0.mk h
  clear h
  have HPa := Aside0.mk (show bits_Put.f (IntKind.u64.wrap 2) 1 = some (leBytes 2 1) from rfl)
  have HPb := Aside0.mk (show bits_Put.f (IntKind.u64.wrap (k.size : Int)) 1 = some (leBytes k.size 1) by rw [u64_wrap (by omega) (by omega)]; rfl)
  have HPc := Aside0.mk (show bits_Put.f (IntKind.u64.wrap (v.size : Int)) 2 = some (leBytes v.size 2) by rw [u64_wrap (by omega) (by omega)]; rfl)
  have HLa := Aside0.mk (show ([] : List Int).length ≤ 1000000 by simp)
  have HLb := Aside0.mk (show ([] ++ leBytes 2 1 : List Int).length ≤ 1000000 by simp [leBytes])
  have HMa := Aside0.mk (show (leBytes 2 1).length ≤ 8 by simp [leBytes])
  have HMb := Aside0.mk (show (leBytes k.size 1).length ≤ 8 by simp [leBytes])
  have HMc := Aside0.mk (show (leBytes v.size 2).length ≤ 8 by simp [leBytes])
  go_enter Try.func18, Try.ntmps18
  go_wp2_with (first
    | (go_at_call 22; refine (node_Right.calls k v true true _ HR.out).mono ?_; rintro e w1 ⟨rfl, hb1⟩
       have HW1 := Aside0.mk (Writer.fresh w1); have hc1 := HW1.out.cell
       have HN1 := Aside0.mk ((NodeAt.fresh w k v true).below hb1 (by simp))
       have HB1 := Aside0.mk ((below_alloc (Below.refl w.heap.size w) (.cells #[.string k, .string v, .bool true] 32)).trans (hb1.mono (by simp)))
       obtain ⟨n1a, n1b, n1c⟩ := (HN1.out.alloc (.cells #[.slice none 0 0] 69)).cells
       clear hb1)
    | (go_at_call 46; (with_reducible refine (put_calls w1.heap.size w1.heap.size _ [] (leBytes 2 1) 2 1 _ HW1.out HLa.out HMa.out HPa.out).mono ?_); rintro e w2 ⟨rfl, v2, hw2, hb2, _⟩
       have HW2 := Aside0.mk hw2; have hc2 := HW2.out.cell; have HB2 := Aside0.mk ((below_alloc (Below.refl w1.heap.size w1) (.cells #[.slice none 0 0] 69)).trans hb2)
       have HN2 := Aside0.mk (HN1.out.below HB2.out HN1.out.lt)
       obtain ⟨n2a, n2b, n2c⟩ := HN2.out.cells
       clear hw2 hb2 hc1 n1a n1b n1c)
    | (go_at_call 46; (with_reducible refine (put_calls w1.heap.size w1.heap.size _ _ (leBytes k.size 1) k.size 1 _ HW2.out HLb.out HMb.out HPb.out).mono ?_); rintro e w3 ⟨rfl, v3, hw3, hb3, _⟩
       have HW3 := Aside0.mk hw3; have hc3 := HW3.out.cell; have HB3 := Aside0.mk (HB2.out.trans hb3)
       have HN3 := Aside0.mk (HN1.out.below HB3.out HN1.out.lt)
       obtain ⟨n3a, n3b, n3c⟩ := HN3.out.cells
       clear hw3 hb3 hc2 n2a n2b n2c))
  go_region_law (
       refine str_append_step (W := w3.drew) w1.heap.size (by rfl) (.tmp 25) (.tmp 27) 34 9 5 rfl Try.underlying34 Try.underlying9 info5 v3 _ k (by first | rfl | (simp [Act.eval]; done)) (by first | rfl | (simp [Act.eval]; done)) (Kd.R_drew HW3.out.row) HB3.out.size (by simp [leBytes]; omega) ?_
       intro v4 w4 ho hg
       obtain ⟨A4, c4, hv4⟩ := Kd.R_slice ho
       obtain ⟨xs4, hx4⟩ : ∃ xs, xs = [] ++ leBytes 2 1 ++ leBytes k.size 1 ++ bytesOf k := ⟨_, rfl⟩
       rw [← hx4] at ho hv4
       obtain ⟨n4, hn4⟩ : ∃ n, n = xs4.length := ⟨_, rfl⟩
       rw [← hn4] at hv4
       subst hv4
       obtain ⟨hc4, hf4, hw4⟩ := (Writer.below HW3.out (below_drew (Below.refl _ _))).stored hg ho
       have hbb : Below w1.heap.size w1 w4 := (below_drew HB3.out).grown hg HB3.out.size (own_base (Kd.own_of_R HW3.out.row))
       have HB4 := Aside0.mk (hbb.setCell (p := ⟨w1.heap.size, 0, none⟩) (Nat.le_refl _) (.slice A4 n4 c4))
       have HW4 := Aside0.mk hw4; have hd4 := HW4.out.cell
       obtain ⟨n4a, n4b, n4c⟩ := (HN1.out.below hbb HN1.out.lt).cells
       have HN4 := Aside0.mk (HN1.out.below HB4.out HN1.out.lt)
       obtain ⟨m4a, m4b, m4c⟩ := HN4.out.cells
       have HX4 := Aside0.mk hx4
       have HLd := Aside0.mk (show xs4.length ≤ 1000000 by rw [hx4]; simp [leBytes, bytesOf_length]; omega)
       have HL4 := Aside0.mk hn4
       clear ho hg hw4 hbb hc3 n3a n3b n3c hx4 hn4)
  all_goals
   go_wp2_with (first
    | (go_at_call 46; (with_reducible refine (put_calls w1.heap.size w1.heap.size _ _ (leBytes v.size 2) v.size 2 _ HW4.out HLd.out HMc.out HPc.out).mono ?_); rintro e w5 ⟨rfl, v5, hw5, hb5, _⟩
       have HW5 := Aside0.mk hw5; have hc5 := HW5.out.cell; have HB5 := Aside0.mk (HB4.out.trans hb5)
       have HN5 := Aside0.mk (HN1.out.below HB5.out HN1.out.lt)
       obtain ⟨n5a, n5b, n5c⟩ := HN5.out.cells
       clear hw5 hb5 hd4 hc4 hf4 n4a n4b n4c m4a m4b m4c))
   go_region_law (
      refine str_append_step (W := w5.drew) w1.heap.size (by rfl) (.tmp 39) (.tmp 41) 34 9 5 rfl Try.underlying34 Try.underlying9 info5 v5 (xs4 ++ leBytes v.size 2) v (by first | rfl | (simp [Act.eval]; done)) (by first | rfl | (simp [Act.eval]; done)) (Kd.R_drew HW5.out.row) HB5.out.size (by rw [HX4.out]; simp [leBytes, bytesOf_length]; omega) ?_
      intro v6 w6 ho hg
      have HO6 := Aside0.mk ho
      have HB6 := Aside0.mk ((below_drew HB5.out).grown hg HB5.out.size (own_base (Kd.own_of_R HW5.out.row)))
      clear ho hg)
   all_goals
    go_wp2
    go_ret2
    refine ⟨v6, rfl, ?_, HB1.out.trans (HB6.out.mono HB1.out.size)⟩
    have h6 := Kd.R_lower HO6.out HB1.out.size
    rw [HX4.out] at h6
    simpa [packed, List.append_assoc] using h6

set_option maxHeartbeats 8000000 in
set_option maxRecDepth 100000 in
theorem pack_false (k v : ByteArray) (w : World) (h : node_Right.f k v false = some true) :
    Calls Try.prog 18 #[.agg #[.string k, .string v, .bool false]] w fun e w' => ∃ v0_ : Value, e = .returned (.tuple #[v0_, .int .i64 0]) ∧ Kd.R (Kd.int .u8) 5 w' w.heap.size (fun _ => True) v0_ (packed k v false) ∧ Below w.heap.size w w' := by
  have hu32 := Try.underlying32
  obtain ⟨hk1, hk2, hv⟩ := right_sizes h
  have HR := Aside0.mk h
  clear h
  have HPa := Aside0.mk (show bits_Put.f (IntKind.u64.wrap 1) 1 = some (leBytes 1 1) from rfl)
  have HPb := Aside0.mk (show bits_Put.f (IntKind.u64.wrap (k.size : Int)) 1 = some (leBytes k.size 1) by rw [u64_wrap (by omega) (by omega)]; rfl)
  have HPc := Aside0.mk (show bits_Put.f (IntKind.u64.wrap (v.size : Int)) 2 = some (leBytes v.size 2) by rw [u64_wrap (by omega) (by omega)]; rfl)
  have HLa := Aside0.mk (show ([] : List Int).length ≤ 1000000 by simp)
  have HLb := Aside0.mk (show ([] ++ leBytes 1 1 : List Int).length ≤ 1000000 by simp [leBytes])
  have HMa := Aside0.mk (show (leBytes 1 1).length ≤ 8 by simp [leBytes])
  have HMb := Aside0.mk (show (leBytes k.size 1).length ≤ 8 by simp [leBytes])
  have HMc := Aside0.mk (show (leBytes v.size 2).length ≤ 8 by simp [leBytes])
  go_enter Try.func18, Try.ntmps18
  go_wp2_with (first
    | (go_at_call 22; refine (node_Right.calls k v false true _ HR.out).mono ?_; rintro e w1 ⟨rfl, hb1⟩
       have HW1 := Aside0.mk (Writer.fresh w1); have hc1 := HW1.out.cell
       have HN1 := Aside0.mk ((NodeAt.fresh w k v false).below hb1 (by simp))
       have HB1 := Aside0.mk ((below_alloc (Below.refl w.heap.size w) (.cells #[.string k, .string v, .bool false] 32)).trans (hb1.mono (by simp)))
       obtain ⟨n1a, n1b, n1c⟩ := (HN1.out.alloc (.cells #[.slice none 0 0] 69)).cells
       clear hb1)
    | (go_at_call 46; (with_reducible refine (put_calls w1.heap.size w1.heap.size _ [] (leBytes 1 1) 1 1 _ HW1.out HLa.out HMa.out HPa.out).mono ?_); rintro e w2 ⟨rfl, v2, hw2, hb2, _⟩
       have HW2 := Aside0.mk hw2; have hc2 := HW2.out.cell; have HB2 := Aside0.mk ((below_alloc (Below.refl w1.heap.size w1) (.cells #[.slice none 0 0] 69)).trans hb2)
       have HN2 := Aside0.mk (HN1.out.below HB2.out HN1.out.lt)
       obtain ⟨n2a, n2b, n2c⟩ := HN2.out.cells
       clear hw2 hb2 hc1 n1a n1b n1c)
    | (go_at_call 46; (with_reducible refine (put_calls w1.heap.size w1.heap.size _ _ (leBytes k.size 1) k.size 1 _ HW2.out HLb.out HMb.out HPb.out).mono ?_); rintro e w3 ⟨rfl, v3, hw3, hb3, _⟩
       have HW3 := Aside0.mk hw3; have hc3 := HW3.out.cell; have HB3 := Aside0.mk (HB2.out.trans hb3)
       have HN3 := Aside0.mk (HN1.out.below HB3.out HN1.out.lt)
       obtain ⟨n3a, n3b, n3c⟩ := HN3.out.cells
       clear hw3 hb3 hc2 n2a n2b n2c))
  go_region_law (
       refine str_append_step (W := w3.drew) w1.heap.size (by rfl) (.tmp 25) (.tmp 27) 34 9 5 rfl Try.underlying34 Try.underlying9 info5 v3 _ k (by first | rfl | (simp [Act.eval]; done)) (by first | rfl | (simp [Act.eval]; done)) (Kd.R_drew HW3.out.row) HB3.out.size (by simp [leBytes]; omega) ?_
       intro v4 w4 ho hg
       obtain ⟨A4, c4, hv4⟩ := Kd.R_slice ho
       obtain ⟨xs4, hx4⟩ : ∃ xs, xs = [] ++ leBytes 1 1 ++ leBytes k.size 1 ++ bytesOf k := ⟨_, rfl⟩
       rw [← hx4] at ho hv4
       obtain ⟨n4, hn4⟩ : ∃ n, n = xs4.length := ⟨_, rfl⟩
       rw [← hn4] at hv4
       subst hv4
       obtain ⟨hc4, hf4, hw4⟩ := (Writer.below HW3.out (below_drew (Below.refl _ _))).stored hg ho
       have hbb : Below w1.heap.size w1 w4 := (below_drew HB3.out).grown hg HB3.out.size (own_base (Kd.own_of_R HW3.out.row))
       have HB4 := Aside0.mk (hbb.setCell (p := ⟨w1.heap.size, 0, none⟩) (Nat.le_refl _) (.slice A4 n4 c4))
       have HW4 := Aside0.mk hw4; have hd4 := HW4.out.cell
       obtain ⟨n4a, n4b, n4c⟩ := (HN1.out.below hbb HN1.out.lt).cells
       have HN4 := Aside0.mk (HN1.out.below HB4.out HN1.out.lt)
       obtain ⟨m4a, m4b, m4c⟩ := HN4.out.cells
       have HX4 := Aside0.mk hx4
       have HLd := Aside0.mk (show xs4.length ≤ 1000000 by rw [hx4]; simp [leBytes, bytesOf_length]; omega)
       have HL4 := Aside0.mk hn4
       clear ho hg hw4 hbb hc3 n3a n3b n3c hx4 hn4)
  all_goals
   go_wp2_with (first
    | (go_at_call 46; (with_reducible refine (put_calls w1.heap.size w1.heap.size _ _ (leBytes v.size 2) v.size 2 _ HW4.out HLd.out HMc.out HPc.out).mono ?_); rintro e w5 ⟨rfl, v5, hw5, hb5, _⟩
       have HW5 := Aside0.mk hw5; have hc5 := HW5.out.cell; have HB5 := Aside0.mk (HB4.out.trans hb5)
       have HN5 := Aside0.mk (HN1.out.below HB5.out HN1.out.lt)
       obtain ⟨n5a, n5b, n5c⟩ := HN5.out.cells
       clear hw5 hb5 hd4 hc4 hf4 n4a n4b n4c m4a m4b m4c))
   go_region_law (
      refine str_append_step (W := w5.drew) w1.heap.size (by rfl) (.tmp 39) (.tmp 41) 34 9 5 rfl Try.underlying34 Try.underlying9 info5 v5 (xs4 ++ leBytes v.size 2) v (by first | rfl | (simp [Act.eval]; done)) (by first | rfl | (simp [Act.eval]; done)) (Kd.R_drew HW5.out.row) HB5.out.size (by rw [HX4.out]; simp [leBytes, bytesOf_length]; omega) ?_
      intro v6 w6 ho hg
      have HO6 := Aside0.mk ho
      have HB6 := Aside0.mk ((below_drew HB5.out).grown hg HB5.out.size (own_base (Kd.own_of_R HW5.out.row)))
      clear ho hg)
   all_goals
    go_wp2
    go_ret2
    refine ⟨v6, rfl, ?_, HB1.out.trans (HB6.out.mono HB1.out.size)⟩
    have h6 := Kd.R_lower HO6.out HB1.out.size
    rw [HX4.out] at h6
    simpa [packed, List.append_assoc] using h6

theorem node_Pack.calls (a0_0 : ByteArray) (a0_1 : ByteArray) (a0_2 : Bool) (r1 : List Int) (r2 : Int) (w : World) (h : node_Pack.f a0_0 a0_1 a0_2 = some (r1, r2)) :
    Calls Try.prog 18 #[.agg #[.string a0_0, .string a0_1, .bool a0_2]] w fun e w' => ∃ v0_ : Value, e = .returned (.tuple #[v0_, .int .i64 r2]) ∧ Kd.R (Kd.int .u8) 5 w' w.heap.size (fun _ => True) v0_ r1 ∧ Below w.heap.size w w' := by
  unfold node_Pack.f at h
  obtain ⟨b, hb, h⟩ := Option.bind_eq_some_iff.mp h
  cases b with
  | false =>
    cases h
    exact pack_refused _ _ _ _ hb
  | true =>
    cases h
    cases a0_2 with
    | false => exact pack_false _ _ _ hb
    | true => exact pack_true _ _ _ hb
end Go.Proofs.Ytakchpeohmkpkaa.Q

namespace Go.Proofs.Ytakchpeohmkpkaa.Sep
open Go.RowKit Go.Proofs.YtakchpeohmkpkaaW.PrintWords Go.Proofs.YtakchpeohmkpkaaW.PrintLast
set_option linter.unusedVariables false
set_option linter.unusedSimpArgs false
theorem Holds.none {w0 w : World} {H : Frag} (h : Holds w0 w H) : Holds w0 w [] := h.sub (List.nil_sublist _)
theorem bytesOf_get (s : ByteArray) (j : Nat) (x : Int) (h : (bytesOf s)[j]? = some x) : j < s.size ∧ x = ((s.data.toList.getD j 0).toNat : Int) := by
  unfold bytesOf at h
  rw [List.getElem?_map] at h
  obtain ⟨b, hb, rfl⟩ := Option.map_eq_some_iff.1 h
  have hl := (List.getElem?_eq_some_iff.1 hb).1
  rw [data_length] at hl
  refine ⟨hl, ?_⟩
  rw [List.getD_eq_getElem?_getD, hb]
  rfl
section
variable {P : Program} {ops : Array Oper} {Q : Exit → Act → World → Prop} {rest : List Oper} {a : Act} {W w0 : World} {H : Frag} {d : Option Tmp} {tp : TypeId} {ps : String} {af : Array Edge} {gd : Option (Nat × Bool)}
theorem bytesWorld_holds (HH : Holds w0 W H) (e : TypeId) (s : ByteArray) : ∃ o, Holds w0 (Lib.bytesWorld W e s) ((W.heap.size, o) :: H) ∧ Src (Value.int .u8) w0 [(W.heap.size, o)] (some ⟨W.heap.size, 0, none⟩) (bytesOf s) := by
  have hold : ∀ x, x ∈ H → (Lib.bytesWorld W e s).heap[x.1]? = W.heap[x.1]? := fun x hx => Lib.bytesWorld_at_old W e s x.1 (HH.lt hx)
  refine ⟨.cells (Lib.bytesCells W e s) e ((Lib.bytesCells W e s).size, (Lib.bytesCells W e s).size + 1), ⟨?_, ?_, ?_, ?_⟩, ?_⟩
  · refine HH.below.trans ⟨?_, ?_, ?_, ?_, fun k hk => ?_⟩
    · simp [Lib.bytesWorld, World.freeze, World.alloc, World.drew, -World.alloc_eq, -World.drew_eq]
    · simp [Lib.bytesWorld, World.freeze, World.alloc, World.drew, -World.alloc_eq, -World.drew_eq]
    · simp [Lib.bytesWorld, World.freeze, World.alloc, World.drew, -World.alloc_eq, -World.drew_eq]
    · rw [Lib.bytesWorld_size]
      omega
    · exact Lib.bytesWorld_at_old W e s k (Nat.lt_of_lt_of_le hk HH.below.size)
  · intro x hx
    rcases List.mem_cons.1 hx with rfl | hx
    · exact Lib.bytesWorld_at_new W e s
    · rw [hold x hx]
      exact HH.has x hx
  · intro x hx
    rcases List.mem_cons.1 hx with rfl | hx
    · exact HH.below.size
    · exact HH.low x hx
  · simp only [List.map_cons, List.nodup_cons]
    refine ⟨fun hm => ?_, HH.nodup⟩
    obtain ⟨x, hx, he⟩ := List.mem_map.1 hm
    have := HH.lt hx
    omega
  · refine .inr ⟨_, 0, rfl, .inr ⟨(Lib.bytesCells W e s).toList, e, ((Lib.bytesCells W e s).size, (Lib.bytesCells W e s).size + 1), by simp [Cl], fun j x hx => ?_⟩⟩
    obtain ⟨hj, rfl⟩ := bytesOf_get s j x hx
    have hc := Lib.bytesWorld_cell W e s j hj
    simp only [World.cell?, Lib.bytesWorld_at_new] at hc
    simpa using hc
/-- []byte(s). -/
theorem conv_ (HH : Holds w0 W H) {src dst : TypeId} {x : Operand} {s : ByteArray} {e : TypeId} {v : Value} (hw : Region.wanted ⟨d, .convert src dst x, tp, ps, af, gd⟩ (yielded ops a.tmps) = true) (hev : a.eval x = v) (hv : v = .string s) (hs : P.underlying src = some .string) (hd : P.underlying dst = some (.slice e)) (he : P.underlying e = some (.int .u8))
    (k : ∀ b w1 o cap, Holds w0 w1 ((b, o) :: H) → Src (Value.int .u8) w0 [(b, o)] (some ⟨b, 0, none⟩) (bytesOf s) → (bytesOf s).length ≤ cap → wpList P ops Q rest (a.put d (.slice (some ⟨b, 0, none⟩) (bytesOf s).length cap)) w1) : wpList P ops Q (⟨d, .convert src dst x, tp, ps, af, gd⟩ :: rest) a W := by
  subst hev
  obtain ⟨o, h1, h2⟩ := bytesWorld_holds HH e s
  refine wpList_value hw (w1 := Lib.bytesWorld W e s) (v := .slice (some ⟨W.heap.size, 0, none⟩) (bytesOf s).length (grownCap W s.size 0 e)) ?_ (k _ _ o _ h1 h2 ?_)
  · unfold execOp
    simp [hv, Lib.run_convert_string_bytes W src dst e s hs hd he, bytesOf_length]
  · rw [bytesOf_length]
    exact grownCap_ge W s.size 0 e
/-- string(b). -/
theorem text_ (HH : Holds w0 W H) {src dst : TypeId} {x : Operand} {A : Option Addr} {c : Nat} {xs : List Int} {e : TypeId} {v : Value} (hw : Region.wanted ⟨d, .convert src dst x, tp, ps, af, gd⟩ (yielded ops a.tmps) = true) (hev : a.eval x = v) (hv : v = .slice A xs.length c) (hs : P.underlying src = some (.slice e)) (hd : P.underlying dst = some .string) (he : P.underlying e = some (.int .u8)) (hS : Src (Value.int .u8) w0 H A xs) (hl : xs.length ≤ 9223372036854775807)
    (k : wpList P ops Q rest (a.put d (.string (strOfNums xs))) W) : wpList P ops Q (⟨d, .convert src dst x, tp, ps, af, gd⟩ :: rest) a W := by
  subst hev
  refine wpList_value hw (w1 := W) ?_ k
  have hC : (Kd.int .u8).C W A xs.length xs := hS.C (h1 := fun _ => rfl) HH hl
  unfold execOp
  simp [hv, Kd.C_string hs he hd hC]
end
end Go.Proofs.Ytakchpeohmkpkaa.Sep

namespace Go.Proofs.Ytakchpeohmkpkaa.Sep
open Go.RowKit Go.Proofs.YtakchpeohmkpkaaW.PrintWords Go.Proofs.YtakchpeohmkpkaaW.PrintLast
set_option linter.unusedVariables false
set_option linter.unusedSimpArgs false
section
variable {P : Program} {ops : Array Oper} {Q : Exit → Act → World → Prop} {md : Region.Mode} {ds : List Nat} {w0 w W : World} {H H' : Frag} {a a' : Act} {K : Act → World → Prop} {oi : Oper} {N : Option Tmp}
theorem start_H (HH : Holds w0 w H) {id n : Nat} (ds : List Nat) (l : Array Bool) (hm : P.follows .mixedOrders = true) (hn : ops.size = n) (hl : Array.replicate n false = l)
    (h : wpAnyLast P .any ops Q (fun w' => Holds w0 w' H) ds n l a w.drew) : (Code.region id ops true).wp P Q a w := start_ l hm hn hl HH.drew (fun _ => h)
theorem take1_ (hS : Holds w0 w H) {i : Nat} {fuel : Nat} {l : Array Bool} (l' : Array Bool) {t : TypeId} {x : Operand} {b j : Nat} {cs : List Value} {ty : TypeId} {fz : Nat × Nat} {v : Value} (hi : ops[i]? = some oi) (hN : oi.dst = N) (hc : takeB md ops ds l l' i = true) (hQ : ∀ c a w, Q (.panic c) (a.put oi.dst v) w → Q (.panic c) a w)
    (hop : oi.op = .load t x) (ht : oneB P t = true) (hx : a.eval x = .pointer (some ⟨b, j, none⟩)) (hw : Region.wanted oi (yielded ops a.tmps) = true) (hm : (b, Cl cs ty fz) ∈ H) (hv : cs[j]? = some v) (ha : a.put N v = a')
    (h : wpAnyLast P md ops Q (fun w' => Holds w0 w' H) ds fuel l' a' w) : wpAnyLast P md ops Q (fun w' => Holds w0 w' H) ds (fuel + 1) l a w :=
  take_ (S := fun w' => Holds w0 w' H) l' hi hN hc hQ (Or.inl ⟨hw, fun w' hw' => run_load1 hop ht hx (hw'.cell hm hv)⟩) hS ha h
theorem store_e (HH : Holds w0 W H) {t : TypeId} {x y : Operand} {n b i : Nat} {cs vs : List Value} {ty : TypeId} (hop : oi.op = .store t x y) (hN : oi.dst = none) (hw : Region.wanted oi (yielded ops a.tmps) = true) (hx : a.eval x = .pointer (some ⟨b, i, none⟩))
    {v : Value} (hev : a.eval y = v) (hy : v.cells = vs.toArray) (hm : Holds.At b (Cl cs ty) (Cl (splice cs i vs) ty) H H') (hl : vs.length = n) (hn : (P.info? t).map (·.size) = some n) (h1 : ∀ u, u ∈ vs → u.oneCell' = true) (hi : i + n ≤ cs.length)
    (k : ∀ w1, Holds w0 w1 H' → K a w1) : if Region.wanted oi (yielded ops a.tmps) = true then Oper.wp P oi a W K Q else K (a.put none undef) W := by
  subst hev
  exact skip_ hw hN (run_storeN hop hn hx (HH.has _ hm.mem) hy hl h1 hi) (k _ (HH.repl hm))
theorem alloc_e (HH : Holds w0 W H) {t : TypeId} {z : Value} {cs : List Value} (hop : oi.op = .alloc t) (hN : oi.dst = N) (hw : Region.wanted oi (yielded ops a.tmps) = true) (hz : (P.info? t).bind (·.zero) = some z) (hx : z.cells = cs.toArray)
    (k : ∀ b w1, Holds w0 w1 ((b, Cl cs t) :: H) → K (a.put N (.pointer (some ⟨b, 0, none⟩))) w1) : if Region.wanted oi (yielded ops a.tmps) = true then Oper.wp P oi a W K Q else K (a.put N undef) W := by
  refine value_ hw hN (run_alloc hop ?_ hx) (k _ _ (HH.alloc _))
  obtain ⟨i, hi, hzz⟩ := Option.bind_eq_some_iff.1 hz
  simp [zeroValue, typeInfo, hi, hzz]
theorem conv_e (HH : Holds w0 W H) {src dst : TypeId} {x : Operand} {s : ByteArray} {e : TypeId} {v : Value} (hop : oi.op = .convert src dst x) (hN : oi.dst = N) (hw : Region.wanted oi (yielded ops a.tmps) = true) (hev : a.eval x = v) (hv : v = .string s) (hs : P.underlying src = some .string) (hd : P.underlying dst = some (.slice e)) (he : P.underlying e = some (.int .u8))
    (k : ∀ b w1 o cap, Holds w0 w1 ((b, o) :: H) → Src (Value.int .u8) w0 [(b, o)] (some ⟨b, 0, none⟩) (bytesOf s) → (bytesOf s).length ≤ cap → K (a.put N (.slice (some ⟨b, 0, none⟩) (bytesOf s).length cap)) w1) : if Region.wanted oi (yielded ops a.tmps) = true then Oper.wp P oi a W K Q else K (a.put N undef) W := by
  subst hev
  obtain ⟨o, h1, h2⟩ := bytesWorld_holds HH e s
  refine value_ hw hN (w1 := Lib.bytesWorld W e s) (v := .slice (some ⟨W.heap.size, 0, none⟩) (bytesOf s).length (grownCap W s.size 0 e)) ?_ (k _ _ o _ h1 h2 ?_)
  · unfold execOp
    simp [hop, hv, Lib.run_convert_string_bytes W src dst e s hs hd he, bytesOf_length]
  · rw [bytesOf_length]
    exact grownCap_ge W s.size 0 e
theorem call_e {f : FuncId} {fn : Func} {ops_ : Array Operand} {ts : Array TypeId} {args : Array Value} {R : Ending → World → Prop} (hf : P.funcs[f]? = some fn) (hname : (fn.name == "runtime.NumGoroutine") = false) (hb : fn.body.isSome = true) (hop : oi.op = .call { callee := .value (.func f), args := ops_, argTypes := ts }) (hN : oi.dst = N) (hw : Region.wanted oi (yielded ops a.tmps) = true) (hargs : ops_.map a.eval = args)
    (hcl : Calls P f args W R) (k : ∀ e w', R e w' → ∃ v, e = .returned v ∧ K (a.put N v) w') : if Region.wanted oi (yielded ops a.tmps) = true then Oper.wp P oi a W K Q else K (a.put N undef) W :=
  goes_ hf hname hb args hw hN hop hargs (hcl.mono k)
end
end Go.Proofs.Ytakchpeohmkpkaa.Sep

namespace Go.Proofs.Ytakchpeohmkpkaa.Q
open Go.RowKit Go.Proofs.YtakchpeohmkpkaaW.PrintWords Go.Proofs.YtakchpeohmkpkaaW.PrintLast Go.Proofs.YtakchpeohmkpkaaW.PrintMore Go.Proofs.YtakchpeohmkpkaaW.PrintWords Go.Proofs.Ytakchpeohmkpkaa.Sep
set_option linter.unusedVariables false
set_option linter.unusedSimpArgs false
theorem leBytes_snoc : ∀ (m : Nat) (n : Int), leBytes n (m + 1) = leBytes n m ++ [n / 256 ^ m % 256]
  | 0, n => by simp [leBytes]
  | m + 1, n => by
    rw [leBytes, leBytes_snoc m (n / 256), leBytes]
    rw [Int.ediv_ediv_of_nonneg (by omega : (0 : Int) ≤ 256), show (256 : Int) * 256 ^ m = 256 ^ (m + 1) from by rw [Int.pow_succ]; omega]
    rfl
theorem leBytes_length : ∀ (m : Nat) (n : Int), (leBytes n m).length = m
  | 0, _ => rfl
  | m + 1, n => by rw [leBytes, List.length_cons, leBytes_length m]
theorem leBytes_bytes : ∀ (m : Nat) (n : Int), Bytes (leBytes n m)
  | 0, _ => fun x hx => by simp [leBytes] at hx
  | m + 1, n => fun x hx => by
    rw [leBytes, List.mem_cons] at hx
    rcases hx with rfl | hx
    · omega
    · exact leBytes_bytes m _ x hx
theorem rput_loop (n : Int) (m : Nat) (hm : m ≤ 8) : ∀ (d k i : Nat), i + d = m → d < k → pumiceref01_Put.l0 k n m (leBytes n i) i = some (leBytes n m)
  | 0, k + 1, i, h, _ => by
    have hi : i = m := by omega
    subst hi
    rw [pumiceref01_Put.l0, if_neg (by omega)]
  | d + 1, k + 1, i, h, hk => by
    have hw : wrap64 (8 * (i : Int)) = 8 * (i : Int) := by unfold wrap64; omega
    have hu : IntKind.u64.wrap (8 * (i : Int)) = 8 * (i : Int) := wrap_u64 (by omega) (by omega)
    have hw2 : wrap64 ((i : Int) + 1) = ((i + 1 : Nat) : Int) := by unfold wrap64; omega
    rw [pumiceref01_Put.l0, if_pos (by omega), if_pos (by omega), hw, hu, hw2, if_pos (by omega), if_pos (by rw [leBytes_length]; omega)]
    have hs : shr .u64 n (8 * (i : Int)) % 256 = n / 256 ^ i % 256 := by
      unfold shr
      have h1 : min (8 * (i : Int)).toNat IntKind.u64.bits = 8 * i := by
        have : IntKind.u64.bits = 64 := rfl
        omega
      rw [h1, show (2 : Int) ^ (8 * i) = 256 ^ i from by rw [Int.pow_mul]; rfl]
    rw [hs, ← leBytes_snoc]
    exact rput_loop n m hm d k (i + 1) (by omega) (by omega)
theorem rput_val (n : Int) (m : Nat) (hm : m ≤ 8) : pumiceref01_Put.f 9 n m = some (leBytes n m) := by
  unfold pumiceref01_Put.f
  have := rput_loop n m hm m 9 0 (by omega) (by omega)
  simpa [leBytes] using this
theorem rput_s (n : Int) (m : Nat) (hm : m ≤ 8) (h0 : 0 ≤ n) (h1 : n < 18446744073709551616) : pumiceref06_put.f 9 n m = some (strOfNums (leBytes n m)) := by
  unfold pumiceref06_put.f
  rw [wrap_u64 h0 h1, rput_val n m hm]
  rfl
theorem bytesOf_app (a b : ByteArray) : bytesOf (a ++ b) = bytesOf a ++ bytesOf b := by
  unfold bytesOf
  rw [← List.map_append]
  congr 1
theorem bytesOf_str {xs : List Int} (h : Bytes xs) : bytesOf (strOfNums xs) = xs := by
  unfold bytesOf
  rw [strOfNums_data, List.map_map]
  conv => rhs; rw [← List.map_id xs]
  apply List.map_congr_left
  intro x hx
  have := h x hx
  simp only [Function.comp, id]
  have h2 : (UInt8.ofNat x.toNat).toNat = x.toNat := by
    rw [UInt8.toNat_ofNat']
    omega
  omega
theorem Src.row_new {w0 w : World} {b : Nat} {o : Obj} {xs : List Int} {H : Frag} (h : Src (Value.int .u8) w0 [(b, o)] (some ⟨b, 0, none⟩) xs) (HH : Holds w0 w H) (hm : (b, o) ∈ H) (hl : xs.length ≤ 9223372036854775807) : Kd.F (Kd.int .u8) w (fun k_ => w0.heap.size ≤ k_) (some ⟨b, 0, none⟩) xs.length xs := by
  intro W' hW'
  have hb : W'.heap[b]? = some o := by rw [hW' b (HH.low _ hm) (HH.lt hm)]; exact HH.has _ hm
  have h2 : Src (Value.int .u8) ({ W' with heap := #[] } : World) [(b, o)] (some ⟨b, 0, none⟩) xs := by
    rcases h with h | ⟨b', off, hA, ⟨hlt, _⟩ | h⟩
    · exact .inl h
    · cases hA
      have := HH.low _ hm
      omega
    · exact .inr ⟨b', off, hA, .inr h⟩
  exact h2.C (h1 := fun _ => rfl) (w := W') ⟨⟨rfl, rfl, rfl, by simp, fun k hk => by simp at hk⟩, by simpa using hb, by simp, by simp⟩ hl
def pumiceref06_Pack.f (k v : ByteArray) (g : Bool) : Option (List Int × Int) := (pumiceref06_Right.f k v g).bind fun b => if b = true then some (packed k v g, 0) else some ([], 22)
theorem rright_sizes {k v : ByteArray} {g : Bool} (h : pumiceref06_Right.f k v g = some true) : 1 ≤ k.size ∧ k.size ≤ 64 ∧ v.size ≤ 256 := by
  unfold pumiceref06_Right.f at h
  by_cases h1 : (k.size : Int) ≥ 1
  · rw [if_pos h1] at h
    by_cases h2 : (k.size : Int) ≤ 64
    · rw [if_pos h2] at h
      by_cases h3 : (v.size : Int) ≤ 256
      · omega
      · rw [if_neg h3] at h; cases h
    · rw [if_neg h2] at h; cases h
  · rw [if_neg h1] at h; cases h
def packS (k v : ByteArray) (n : Int) : ByteArray := strOfNums (leBytes n 1) ++ strOfNums (leBytes k.size 1) ++ k ++ strOfNums (leBytes v.size 2) ++ v
theorem packS_bytes (k v : ByteArray) (n : Int) : bytesOf (packS k v n) = leBytes n 1 ++ leBytes k.size 1 ++ bytesOf k ++ leBytes v.size 2 ++ bytesOf v := by
  unfold packS
  rw [bytesOf_app, bytesOf_app, bytesOf_app, bytesOf_app, bytesOf_str (leBytes_bytes _ _), bytesOf_str (leBytes_bytes _ _), bytesOf_str (leBytes_bytes _ _)]
set_option maxHeartbeats 8000000 in
set_option maxRecDepth 100000 in
theorem pack_f (k v : ByteArray) (w : World) (hr : pumiceref06_Right.f k v false = some true) :
    Calls Try.prog 19 #[.agg #[.string k, .string v, .bool false]] w fun e w' => ∃ v0_ : Value, e = .returned (.tuple #[v0_, .int .i64 0]) ∧ Kd.V (Kd.int .u8) 5 w' w.heap.size (fun k_ => w.heap.size ≤ k_) v0_ (bytesOf (packS k v 1)) ∧ Below w.heap.size w w' := by
  obtain ⟨hk1, hk2, hv1⟩ := rright_sizes hr
  have HR := Aside0.mk hr
  have P1 := Aside0.mk (rput_s 1 1 (by decide) (by decide) (by decide))
  have P2 := Aside0.mk (rput_s (k.size : Int) 1 (by decide) (by omega) (by omega))
  have P3 := Aside0.mk (rput_s (v.size : Int) 2 (by decide) (by omega) (by omega))
  have z1 : (strOfNums (leBytes 1 1)).size = 1 := by rw [strOfNums_size, leBytes_length]
  have z2 : (strOfNums (leBytes k.size 1)).size = 1 := by rw [strOfNums_size, leBytes_length]
  have z3 : (strOfNums (leBytes v.size 2)).size = 2 := by rw [strOfNums_size, leBytes_length]
  have Z := Aside0.mk (show (strOfNums (leBytes 1 1)).size + (strOfNums (leBytes k.size 1)).size ≤ 9223372036854775807 ∧ (strOfNums (leBytes 1 1) ++ strOfNums (leBytes k.size 1)).size + k.size ≤ 9223372036854775807 ∧ (strOfNums (leBytes 1 1) ++ strOfNums (leBytes k.size 1) ++ k).size + (strOfNums (leBytes v.size 2)).size ≤ 9223372036854775807 ∧ (strOfNums (leBytes 1 1) ++ strOfNums (leBytes k.size 1) ++ k ++ strOfNums (leBytes v.size 2)).size + v.size ≤ 9223372036854775807 from by simp only [ByteArray.size_append]; omega)
  have ZB := Aside0.mk (show (bytesOf (packS k v 1)).length ≤ 9223372036854775807 from by rw [bytesOf_length]; unfold packS; simp only [ByteArray.size_append]; omega)
  have HA := Aside0.mk (Holds.start w)
  clear hr hk1 hk2 hv1 z1 z2 z3
  go_enter Try.func19, Try.ntmps19
  go_wp2_with (first
    | ((with_reducible apply box_); (case HH => first | exact HA.out | exact HA.out.any rfl rfl rfl rfl); (case hw => rfl); (case hev => conv => lhs; whnf); (case hy => rfl); intro bx w1 HB_; simp only [Act.put, List.setIfInBounds_toArray, List.set_cons_zero, List.set_cons_succ]; clear HA; have HA := Aside0.mk HB_; clear HB_)
    | ((with_reducible apply load1_); (case HH => first | exact HA.out | exact HA.out.any rfl rfl rfl rfl); (case ht => rfl); (case hx => rfl); (case hw => rfl); (case hm => repeat (first | exact List.Mem.head _ | refine List.Mem.tail _ ?_)); (case hv => exact rfl); simp only [Act.put, List.setIfInBounds_toArray, List.set_cons_zero, List.set_cons_succ])
    | ((with_reducible apply loadN_ (n := 3)); (case HH => first | exact HA.out | exact HA.out.any rfl rfl rfl rfl); (case ht => rfl); (case hn => decide +kernel); (case hx => rfl); (case hw => rfl); (case hm => repeat (first | exact List.Mem.head _ | refine List.Mem.tail _ ?_)); (case hv => first | (simp only [List.drop_succ_cons, List.drop_zero, List.take_succ_cons, List.take_zero]; rfl) | rfl); (case hl => rfl); simp only [Act.put, List.setIfInBounds_toArray, List.set_cons_zero, List.set_cons_succ])
    | (go_at_call 23; (with_reducible apply Calls.mono); (case h => exact pumiceref06_Right.calls _ _ _ _ _ HR.out); rintro e w1 ⟨rfl, hb_⟩; have HB_ := HA.out.call1 hb_ rfl rfl rfl rfl; clear hb_ HA; have HA := Aside0.mk HB_; clear HB_))
  refine start_H (by first | exact HA.out | exact HA.out.any rfl rfl rfl rfl) (n := 21) [] #[false, false, false, false, false, false, false, false, false, false, false, false, false, false, false, false, false, false, false, false, false] (by kernel_rfl) rfl rfl ?_
  refine pure_ (i := 0) (N := some 10) (v := ?_) (a' := ?_) #[true, false, false, false, false, false, false, false, false, false, false, false, false, false, false, false, false, false, false, false, false] rfl rfl (by kernel_rfl) (fun _ _ _ h => h) (Or.inl ⟨by rfl, ?_⟩) ?_ ?_
  rotate_left
  · intro w'
    go_simp
    with_reducible rfl
  rotate_left
  · simp only [Act.put, List.setIfInBounds_toArray, List.set_cons_zero, List.set_cons_succ, i64_w, i32_w]
    rfl
  refine pure_ (i := 2) (N := some 12) (v := ?_) (a' := ?_) #[true, false, true, false, false, false, false, false, false, false, false, false, false, false, false, false, false, false, false, false, false] rfl rfl (by kernel_rfl) (fun _ _ _ h => h) (Or.inl ⟨by rfl, ?_⟩) ?_ ?_
  rotate_left
  · intro w'
    go_simp
    with_reducible rfl
  rotate_left
  · simp only [Act.put, List.setIfInBounds_toArray, List.set_cons_zero, List.set_cons_succ, i64_w, i32_w]
    rfl
  refine pure_ (i := 7) (N := some 17) (v := ?_) (a' := ?_) #[true, false, true, false, false, false, false, true, false, false, false, false, false, false, false, false, false, false, false, false, false] rfl rfl (by kernel_rfl) (fun _ _ _ h => h) (Or.inl ⟨by rfl, ?_⟩) ?_ ?_
  rotate_left
  · intro w'
    go_simp
    with_reducible rfl
  rotate_left
  · simp only [Act.put, List.setIfInBounds_toArray, List.set_cons_zero, List.set_cons_succ, i64_w, i32_w]
    rfl
  refine pure_ (i := 10) (N := some 20) (v := ?_) (a' := ?_) #[true, false, true, false, false, false, false, true, false, false, true, false, false, false, false, false, false, false, false, false, false] rfl rfl (by kernel_rfl) (fun _ _ _ h => h) (Or.inl ⟨by rfl, ?_⟩) ?_ ?_
  rotate_left
  · intro w'
    go_simp
    with_reducible rfl
  rotate_left
  · simp only [Act.put, List.setIfInBounds_toArray, List.set_cons_zero, List.set_cons_succ, i64_w, i32_w]
    rfl
  refine pure_ (i := 15) (N := some 25) (v := ?_) (a' := ?_) #[true, false, true, false, false, false, false, true, false, false, true, false, false, false, false, true, false, false, false, false, false] rfl rfl (by kernel_rfl) (fun _ _ _ h => h) (Or.inl ⟨by rfl, ?_⟩) ?_ ?_
  rotate_left
  · intro w'
    go_simp
    with_reducible rfl
  rotate_left
  · simp only [Act.put, List.setIfInBounds_toArray, List.set_cons_zero, List.set_cons_succ, i64_w, i32_w]
    rfl
  apply take1_ (by first | exact HA.out | exact HA.out.any rfl rfl rfl rfl | exact (HA.out.any rfl rfl rfl rfl).tail | exact (HA.out.any rfl rfl rfl rfl).tail.tail | exact (HA.out.any rfl rfl rfl rfl).tail.tail.tail) (i := 3) (l' := #[true, false, true, true, false, false, false, true, false, false, true, false, false, false, false, true, false, false, false, false, false]) (N := some 13)
  case hi => rfl
  case hN => rfl
  case hc => kernel_rfl
  case hop => rfl
  case hx => rfl
  case hw => rfl
  case hm => repeat (first | exact List.Mem.head _ | refine List.Mem.tail _ ?_)
  case ht => rfl
  case hv => rfl
  case hQ => exact fun _ _ _ h => h
  case ha => (simp only [Act.put, List.setIfInBounds_toArray, List.set_cons_zero, List.set_cons_succ, i64_w, i32_w]; rfl)
  refine pure_ (i := 4) (N := some 14) (v := ?_) (a' := ?_) #[true, false, true, true, true, false, false, true, false, false, true, false, false, false, false, true, false, false, false, false, false] rfl rfl (by kernel_rfl) (fun _ _ _ h => h) (Or.inl ⟨by rfl, ?_⟩) ?_ ?_
  rotate_left
  · intro w'
    go_simp
    with_reducible rfl
  rotate_left
  · simp only [Act.put, List.setIfInBounds_toArray, List.set_cons_zero, List.set_cons_succ, i64_w, i32_w]
    rfl
  apply take1_ (by first | exact HA.out | exact HA.out.any rfl rfl rfl rfl | exact (HA.out.any rfl rfl rfl rfl).tail | exact (HA.out.any rfl rfl rfl rfl).tail.tail | exact (HA.out.any rfl rfl rfl rfl).tail.tail.tail) (i := 8) (l' := #[true, false, true, true, true, false, false, true, true, false, true, false, false, false, false, true, false, false, false, false, false]) (N := some 18)
  case hi => rfl
  case hN => rfl
  case hc => kernel_rfl
  case hop => rfl
  case hx => rfl
  case hw => rfl
  case hm => repeat (first | exact List.Mem.head _ | refine List.Mem.tail _ ?_)
  case ht => rfl
  case hv => rfl
  case hQ => exact fun _ _ _ h => h
  case ha => (simp only [Act.put, List.setIfInBounds_toArray, List.set_cons_zero, List.set_cons_succ, i64_w, i32_w]; rfl)
  apply take1_ (by first | exact HA.out | exact HA.out.any rfl rfl rfl rfl | exact (HA.out.any rfl rfl rfl rfl).tail | exact (HA.out.any rfl rfl rfl rfl).tail.tail | exact (HA.out.any rfl rfl rfl rfl).tail.tail.tail) (i := 11) (l' := #[true, false, true, true, true, false, false, true, true, false, true, true, false, false, false, true, false, false, false, false, false]) (N := some 21)
  case hi => rfl
  case hN => rfl
  case hc => kernel_rfl
  case hop => rfl
  case hx => rfl
  case hw => rfl
  case hm => repeat (first | exact List.Mem.head _ | refine List.Mem.tail _ ?_)
  case ht => rfl
  case hv => rfl
  case hQ => exact fun _ _ _ h => h
  case ha => (simp only [Act.put, List.setIfInBounds_toArray, List.set_cons_zero, List.set_cons_succ, i64_w, i32_w]; rfl)
  refine pure_ (i := 12) (N := some 22) (v := ?_) (a' := ?_) #[true, false, true, true, true, false, false, true, true, false, true, true, true, false, false, true, false, false, false, false, false] rfl rfl (by kernel_rfl) (fun _ _ _ h => h) (Or.inl ⟨by rfl, ?_⟩) ?_ ?_
  rotate_left
  · intro w'
    go_simp
    with_reducible rfl
  rotate_left
  · simp only [Act.put, List.setIfInBounds_toArray, List.set_cons_zero, List.set_cons_succ, i64_w, i32_w]
    rfl
  apply take1_ (by first | exact HA.out | exact HA.out.any rfl rfl rfl rfl | exact (HA.out.any rfl rfl rfl rfl).tail | exact (HA.out.any rfl rfl rfl rfl).tail.tail | exact (HA.out.any rfl rfl rfl rfl).tail.tail.tail) (i := 16) (l' := #[true, false, true, true, true, false, false, true, true, false, true, true, true, false, false, true, true, false, false, false, false]) (N := some 26)
  case hi => rfl
  case hN => rfl
  case hc => kernel_rfl
  case hop => rfl
  case hx => rfl
  case hw => rfl
  case hm => repeat (first | exact List.Mem.head _ | refine List.Mem.tail _ ?_)
  case ht => rfl
  case hv => rfl
  case hQ => exact fun _ _ _ h => h
  case ha => (simp only [Act.put, List.setIfInBounds_toArray, List.set_cons_zero, List.set_cons_succ, i64_w, i32_w]; rfl)
  refine one_ (i := 1) (N := some 11) #[true, true, true, true, true, false, false, true, true, false, true, true, true, false, false, true, true, false, false, false, false] rfl rfl (by kernel_rfl) (by decide) (fun K hK => ?_)
  apply call_e Try.func47 (args := #[.int .i64 1, .int .i64 1]); (case hname => kernel_rfl); (case hb => rfl); (case hop => rfl); (case hN => rfl); (case hw => rfl); (case hargs => ((try simp only [List.map_toArray, List.map_cons, List.map_nil]); first | done | rfl)); (case hcl => exact pumiceref06_put.calls 9 1 1 _ _ P1.out); rintro e w1 ⟨rfl, hb_⟩; refine ⟨_, rfl, ?_⟩; (have HB_ := HA.out.call1 hb_ rfl rfl rfl rfl; clear hb_ HA; have HA := Aside0.mk HB_; clear HB_)
  refine hK.out _ _ (by first | exact HA.out | exact HA.out.any rfl rfl rfl rfl | exact (HA.out.any rfl rfl rfl rfl).tail | exact (HA.out.any rfl rfl rfl rfl).tail.tail | exact (HA.out.any rfl rfl rfl rfl).tail.tail.tail) (fun hHeld => ?_)
  clear hK K
  refine norm_ (a' := ?_) ?_ ?_
  rotate_left
  · show Act.put _ (some 11) _ = _
    simp only [Act.put, List.setIfInBounds_toArray, List.set_cons_zero, List.set_cons_succ, i64_w, i32_w]
    rfl
  refine one_ (i := 5) (N := some 15) #[true, true, true, true, true, true, false, true, true, false, true, true, true, false, false, true, true, false, false, false, false] rfl rfl (by kernel_rfl) (by decide) (fun K hK => ?_)
  apply call_e Try.func47 (args := #[.int .i64 k.size, .int .i64 1]); (case hname => kernel_rfl); (case hb => rfl); (case hop => rfl); (case hN => rfl); (case hw => rfl); (case hargs => ((try simp only [List.map_toArray, List.map_cons, List.map_nil]); first | done | rfl)); (case hcl => exact pumiceref06_put.calls 9 k.size 1 _ _ P2.out); rintro e w1 ⟨rfl, hb_⟩; refine ⟨_, rfl, ?_⟩; (have HB_ := HA.out.call1 hb_ rfl rfl rfl rfl; clear hb_ HA; have HA := Aside0.mk HB_; clear HB_)
  refine hK.out _ _ (by first | exact HA.out | exact HA.out.any rfl rfl rfl rfl | exact (HA.out.any rfl rfl rfl rfl).tail | exact (HA.out.any rfl rfl rfl rfl).tail.tail | exact (HA.out.any rfl rfl rfl rfl).tail.tail.tail) (fun hHeld => ?_)
  clear hK K
  refine norm_ (a' := ?_) ?_ ?_
  rotate_left
  · show Act.put _ (some 15) _ = _
    simp only [Act.put, List.setIfInBounds_toArray, List.set_cons_zero, List.set_cons_succ, i64_w, i32_w]
    rfl
  refine take_ (i := 6) (N := some 16) (v := (.string (strOfNums (leBytes 1 1) ++ strOfNums (leBytes k.size 1)))) (a' := ?_) #[true, true, true, true, true, true, true, true, true, false, true, true, true, false, false, true, true, false, false, false, false] rfl rfl (by kernel_rfl) (fun _ _ _ h => h) (Or.inl ⟨by rfl, ?_⟩) (by first | exact HA.out | exact HA.out.any rfl rfl rfl rfl | exact (HA.out.any rfl rfl rfl rfl).tail | exact (HA.out.any rfl rfl rfl rfl).tail.tail | exact (HA.out.any rfl rfl rfl rfl).tail.tail.tail) ?_ ?_
  · intro w' s0
    (obtain ⟨c1, c2, c3, c4⟩ := Z.out; have c := c1; clear c1 c2 c3 c4; (try unfold packS); go_simp; try (simp only [ByteArray.size_append] at c; exact c))
  rotate_left
  · simp only [Act.put, List.setIfInBounds_toArray, List.set_cons_zero, List.set_cons_succ, i64_w, i32_w]
    rfl
  refine take_ (i := 9) (N := some 19) (v := (.string (strOfNums (leBytes 1 1) ++ strOfNums (leBytes k.size 1) ++ k))) (a' := ?_) #[true, true, true, true, true, true, true, true, true, true, true, true, true, false, false, true, true, false, false, false, false] rfl rfl (by kernel_rfl) (fun _ _ _ h => h) (Or.inl ⟨by rfl, ?_⟩) (by first | exact HA.out | exact HA.out.any rfl rfl rfl rfl | exact (HA.out.any rfl rfl rfl rfl).tail | exact (HA.out.any rfl rfl rfl rfl).tail.tail | exact (HA.out.any rfl rfl rfl rfl).tail.tail.tail) ?_ ?_
  · intro w' s0
    (obtain ⟨c1, c2, c3, c4⟩ := Z.out; have c := c2; clear c1 c2 c3 c4; (try unfold packS); go_simp; try (simp only [ByteArray.size_append] at c; exact c))
  rotate_left
  · simp only [Act.put, List.setIfInBounds_toArray, List.set_cons_zero, List.set_cons_succ, i64_w, i32_w]
    rfl
  refine one_ (i := 13) (N := some 23) #[true, true, true, true, true, true, true, true, true, true, true, true, true, true, false, true, true, false, false, false, false] rfl rfl (by kernel_rfl) (by decide) (fun K hK => ?_)
  apply call_e Try.func47 (args := #[.int .i64 v.size, .int .i64 2]); (case hname => kernel_rfl); (case hb => rfl); (case hop => rfl); (case hN => rfl); (case hw => rfl); (case hargs => ((try simp only [List.map_toArray, List.map_cons, List.map_nil]); first | done | rfl)); (case hcl => exact pumiceref06_put.calls 9 v.size 2 _ _ P3.out); rintro e w1 ⟨rfl, hb_⟩; refine ⟨_, rfl, ?_⟩; (have HB_ := HA.out.call1 hb_ rfl rfl rfl rfl; clear hb_ HA; have HA := Aside0.mk HB_; clear HB_)
  refine hK.out _ _ (by first | exact HA.out | exact HA.out.any rfl rfl rfl rfl | exact (HA.out.any rfl rfl rfl rfl).tail | exact (HA.out.any rfl rfl rfl rfl).tail.tail | exact (HA.out.any rfl rfl rfl rfl).tail.tail.tail) (fun hHeld => ?_)
  clear hK K
  refine norm_ (a' := ?_) ?_ ?_
  rotate_left
  · show Act.put _ (some 23) _ = _
    simp only [Act.put, List.setIfInBounds_toArray, List.set_cons_zero, List.set_cons_succ, i64_w, i32_w]
    rfl
  refine take_ (i := 14) (N := some 24) (v := (.string (strOfNums (leBytes 1 1) ++ strOfNums (leBytes k.size 1) ++ k ++ strOfNums (leBytes v.size 2)))) (a' := ?_) #[true, true, true, true, true, true, true, true, true, true, true, true, true, true, true, true, true, false, false, false, false] rfl rfl (by kernel_rfl) (fun _ _ _ h => h) (Or.inl ⟨by rfl, ?_⟩) (by first | exact HA.out | exact HA.out.any rfl rfl rfl rfl | exact (HA.out.any rfl rfl rfl rfl).tail | exact (HA.out.any rfl rfl rfl rfl).tail.tail | exact (HA.out.any rfl rfl rfl rfl).tail.tail.tail) ?_ ?_
  · intro w' s0
    (obtain ⟨c1, c2, c3, c4⟩ := Z.out; have c := c3; clear c1 c2 c3 c4; (try unfold packS); go_simp; try (simp only [ByteArray.size_append] at c; exact c))
  rotate_left
  · simp only [Act.put, List.setIfInBounds_toArray, List.set_cons_zero, List.set_cons_succ, i64_w, i32_w]
    rfl
  refine take_ (i := 17) (N := some 27) (v := (.string (packS k v 1))) (a' := ?_) #[true, true, true, true, true, true, true, true, true, true, true, true, true, true, true, true, true, true, false, false, false] rfl rfl (by kernel_rfl) (fun _ _ _ h => h) (Or.inl ⟨by rfl, ?_⟩) (by first | exact HA.out | exact HA.out.any rfl rfl rfl rfl | exact (HA.out.any rfl rfl rfl rfl).tail | exact (HA.out.any rfl rfl rfl rfl).tail.tail | exact (HA.out.any rfl rfl rfl rfl).tail.tail.tail) ?_ ?_
  · intro w' s0
    (obtain ⟨c1, c2, c3, c4⟩ := Z.out; have c := c4; clear c1 c2 c3 c4; (try unfold packS); go_simp; try (simp only [ByteArray.size_append] at c; exact c))
  rotate_left
  · simp only [Act.put, List.setIfInBounds_toArray, List.set_cons_zero, List.set_cons_succ, i64_w, i32_w]
    rfl
  refine one_ (i := 18) (N := some 28) #[true, true, true, true, true, true, true, true, true, true, true, true, true, true, true, true, true, true, true, false, false] rfl rfl (by kernel_rfl) (by decide) (fun K hK => ?_)
  (apply conv_e; (case HH => first | exact HA.out | exact HA.out.any rfl rfl rfl rfl); (case hop => rfl); (case hN => rfl); (case hw => rfl); (case hev => conv => lhs; whnf); (case hv => rfl); (case hs => exact Try.underlying9); (case hd => exact Try.underlying34); (case he => exact Try.underlying5); intro bs w1 os caps HB_ HSs hcaps; clear HA; have HA := Aside0.mk HB_; clear HB_; have HSs := Aside0.mk HSs; have hcaps := Aside0.mk hcaps)
  refine hK.out _ _ (by first | exact HA.out | exact HA.out.any rfl rfl rfl rfl | exact (HA.out.any rfl rfl rfl rfl).tail | exact (HA.out.any rfl rfl rfl rfl).tail.tail | exact (HA.out.any rfl rfl rfl rfl).tail.tail.tail) (fun hHeld => ?_)
  clear hK K
  refine norm_ (a' := ?_) ?_ ?_
  rotate_left
  · show Act.put _ (some 28) _ = _
    simp only [Act.put, List.setIfInBounds_toArray, List.set_cons_zero, List.set_cons_succ, i64_w, i32_w]
    rfl
  refine pure_ (i := 19) (N := some 2) (v := ?_) (a' := ?_) #[true, true, true, true, true, true, true, true, true, true, true, true, true, true, true, true, true, true, true, true, false] rfl rfl (by kernel_rfl) (fun _ _ _ h => h) (Or.inl ⟨by rfl, ?_⟩) ?_ ?_
  rotate_left
  · intro w'
    go_simp
    with_reducible rfl
  rotate_left
  · simp only [Act.put, List.setIfInBounds_toArray, List.set_cons_zero, List.set_cons_succ, i64_w, i32_w]
    rfl
  refine pure_ (i := 20) (N := some 3) (v := ?_) (a' := ?_) #[true, true, true, true, true, true, true, true, true, true, true, true, true, true, true, true, true, true, true, true, true] rfl rfl (by kernel_rfl) (fun _ _ _ h => h) (Or.inl ⟨by rfl, ?_⟩) ?_ ?_
  rotate_left
  · intro w'
    go_simp
    with_reducible rfl
  rotate_left
  · simp only [Act.put, List.setIfInBounds_toArray, List.set_cons_zero, List.set_cons_succ, i64_w, i32_w]
    rfl
  refine done_ (by kernel_rfl) ?_
  go_wp2
  (apply end_list [.tmp 2, .tmp 3]; (case hres => rfl); (case hd => rfl); (case hvs => apply Vals.tmp; apply Vals.tmp; exact .nil); (case hl => simp); (case hR => exact ⟨_, rfl, Kd.V_mk hcaps.out (Src.row_new HSs.out HA.out (by simp) ZB.out), HA.out.below⟩))
set_option maxHeartbeats 8000000 in
set_option maxRecDepth 100000 in
theorem pack_t (k v : ByteArray) (w : World) (hr : pumiceref06_Right.f k v true = some true) :
    Calls Try.prog 19 #[.agg #[.string k, .string v, .bool true]] w fun e w' => ∃ v0_ : Value, e = .returned (.tuple #[v0_, .int .i64 0]) ∧ Kd.V (Kd.int .u8) 5 w' w.heap.size (fun k_ => w.heap.size ≤ k_) v0_ (bytesOf (packS k v 2)) ∧ Below w.heap.size w w' := by
  obtain ⟨hk1, hk2, hv1⟩ := rright_sizes hr
  have HR := Aside0.mk hr
  have P1 := Aside0.mk (rput_s 2 1 (by decide) (by decide) (by decide))
  have P2 := Aside0.mk (rput_s (k.size : Int) 1 (by decide) (by omega) (by omega))
  have P3 := Aside0.mk (rput_s (v.size : Int) 2 (by decide) (by omega) (by omega))
  have z1 : (strOfNums (leBytes 2 1)).size = 1 := by rw [strOfNums_size, leBytes_length]
  have z2 : (strOfNums (leBytes k.size 1)).size = 1 := by rw [strOfNums_size, leBytes_length]
  have z3 : (strOfNums (leBytes v.size 2)).size = 2 := by rw [strOfNums_size, leBytes_length]
  have Z := Aside0.mk (show (strOfNums (leBytes 2 1)).size + (strOfNums (leBytes k.size 1)).size ≤ 9223372036854775807 ∧ (strOfNums (leBytes 2 1) ++ strOfNums (leBytes k.size 1)).size + k.size ≤ 9223372036854775807 ∧ (strOfNums (leBytes 2 1) ++ strOfNums (leBytes k.size 1) ++ k).size + (strOfNums (leBytes v.size 2)).size ≤ 9223372036854775807 ∧ (strOfNums (leBytes 2 1) ++ strOfNums (leBytes k.size 1) ++ k ++ strOfNums (leBytes v.size 2)).size + v.size ≤ 9223372036854775807 from by simp only [ByteArray.size_append]; omega)
  have ZB := Aside0.mk (show (bytesOf (packS k v 2)).length ≤ 9223372036854775807 from by rw [bytesOf_length]; unfold packS; simp only [ByteArray.size_append]; omega)
  have HA := Aside0.mk (Holds.start w)
  clear hr hk1 hk2 hv1 z1 z2 z3
  go_enter Try.func19, Try.ntmps19
  go_wp2_with (first
    | ((with_reducible apply box_); (case HH => first | exact HA.out | exact HA.out.any rfl rfl rfl rfl); (case hw => rfl); (case hev => conv => lhs; whnf); (case hy => rfl); intro bx w1 HB_; simp only [Act.put, List.setIfInBounds_toArray, List.set_cons_zero, List.set_cons_succ]; clear HA; have HA := Aside0.mk HB_; clear HB_)
    | ((with_reducible apply load1_); (case HH => first | exact HA.out | exact HA.out.any rfl rfl rfl rfl); (case ht => rfl); (case hx => rfl); (case hw => rfl); (case hm => repeat (first | exact List.Mem.head _ | refine List.Mem.tail _ ?_)); (case hv => exact rfl); simp only [Act.put, List.setIfInBounds_toArray, List.set_cons_zero, List.set_cons_succ])
    | ((with_reducible apply loadN_ (n := 3)); (case HH => first | exact HA.out | exact HA.out.any rfl rfl rfl rfl); (case ht => rfl); (case hn => decide +kernel); (case hx => rfl); (case hw => rfl); (case hm => repeat (first | exact List.Mem.head _ | refine List.Mem.tail _ ?_)); (case hv => first | (simp only [List.drop_succ_cons, List.drop_zero, List.take_succ_cons, List.take_zero]; rfl) | rfl); (case hl => rfl); simp only [Act.put, List.setIfInBounds_toArray, List.set_cons_zero, List.set_cons_succ])
    | (go_at_call 23; (with_reducible apply Calls.mono); (case h => exact pumiceref06_Right.calls _ _ _ _ _ HR.out); rintro e w1 ⟨rfl, hb_⟩; have HB_ := HA.out.call1 hb_ rfl rfl rfl rfl; clear hb_ HA; have HA := Aside0.mk HB_; clear HB_))
  refine start_H (by first | exact HA.out | exact HA.out.any rfl rfl rfl rfl) (n := 21) [] #[false, false, false, false, false, false, false, false, false, false, false, false, false, false, false, false, false, false, false, false, false] (by kernel_rfl) rfl rfl ?_
  refine pure_ (i := 0) (N := some 10) (v := ?_) (a' := ?_) #[true, false, false, false, false, false, false, false, false, false, false, false, false, false, false, false, false, false, false, false, false] rfl rfl (by kernel_rfl) (fun _ _ _ h => h) (Or.inl ⟨by rfl, ?_⟩) ?_ ?_
  rotate_left
  · intro w'
    go_simp
    with_reducible rfl
  rotate_left
  · simp only [Act.put, List.setIfInBounds_toArray, List.set_cons_zero, List.set_cons_succ, i64_w, i32_w]
    rfl
  refine pure_ (i := 2) (N := some 12) (v := ?_) (a' := ?_) #[true, false, true, false, false, false, false, false, false, false, false, false, false, false, false, false, false, false, false, false, false] rfl rfl (by kernel_rfl) (fun _ _ _ h => h) (Or.inl ⟨by rfl, ?_⟩) ?_ ?_
  rotate_left
  · intro w'
    go_simp
    with_reducible rfl
  rotate_left
  · simp only [Act.put, List.setIfInBounds_toArray, List.set_cons_zero, List.set_cons_succ, i64_w, i32_w]
    rfl
  refine pure_ (i := 7) (N := some 17) (v := ?_) (a' := ?_) #[true, false, true, false, false, false, false, true, false, false, false, false, false, false, false, false, false, false, false, false, false] rfl rfl (by kernel_rfl) (fun _ _ _ h => h) (Or.inl ⟨by rfl, ?_⟩) ?_ ?_
  rotate_left
  · intro w'
    go_simp
    with_reducible rfl
  rotate_left
  · simp only [Act.put, List.setIfInBounds_toArray, List.set_cons_zero, List.set_cons_succ, i64_w, i32_w]
    rfl
  refine pure_ (i := 10) (N := some 20) (v := ?_) (a' := ?_) #[true, false, true, false, false, false, false, true, false, false, true, false, false, false, false, false, false, false, false, false, false] rfl rfl (by kernel_rfl) (fun _ _ _ h => h) (Or.inl ⟨by rfl, ?_⟩) ?_ ?_
  rotate_left
  · intro w'
    go_simp
    with_reducible rfl
  rotate_left
  · simp only [Act.put, List.setIfInBounds_toArray, List.set_cons_zero, List.set_cons_succ, i64_w, i32_w]
    rfl
  refine pure_ (i := 15) (N := some 25) (v := ?_) (a' := ?_) #[true, false, true, false, false, false, false, true, false, false, true, false, false, false, false, true, false, false, false, false, false] rfl rfl (by kernel_rfl) (fun _ _ _ h => h) (Or.inl ⟨by rfl, ?_⟩) ?_ ?_
  rotate_left
  · intro w'
    go_simp
    with_reducible rfl
  rotate_left
  · simp only [Act.put, List.setIfInBounds_toArray, List.set_cons_zero, List.set_cons_succ, i64_w, i32_w]
    rfl
  apply take1_ (by first | exact HA.out | exact HA.out.any rfl rfl rfl rfl | exact (HA.out.any rfl rfl rfl rfl).tail | exact (HA.out.any rfl rfl rfl rfl).tail.tail | exact (HA.out.any rfl rfl rfl rfl).tail.tail.tail) (i := 3) (l' := #[true, false, true, true, false, false, false, true, false, false, true, false, false, false, false, true, false, false, false, false, false]) (N := some 13)
  case hi => rfl
  case hN => rfl
  case hc => kernel_rfl
  case hop => rfl
  case hx => rfl
  case hw => rfl
  case hm => repeat (first | exact List.Mem.head _ | refine List.Mem.tail _ ?_)
  case ht => rfl
  case hv => rfl
  case hQ => exact fun _ _ _ h => h
  case ha => (simp only [Act.put, List.setIfInBounds_toArray, List.set_cons_zero, List.set_cons_succ, i64_w, i32_w]; rfl)
  refine pure_ (i := 4) (N := some 14) (v := ?_) (a' := ?_) #[true, false, true, true, true, false, false, true, false, false, true, false, false, false, false, true, false, false, false, false, false] rfl rfl (by kernel_rfl) (fun _ _ _ h => h) (Or.inl ⟨by rfl, ?_⟩) ?_ ?_
  rotate_left
  · intro w'
    go_simp
    with_reducible rfl
  rotate_left
  · simp only [Act.put, List.setIfInBounds_toArray, List.set_cons_zero, List.set_cons_succ, i64_w, i32_w]
    rfl
  apply take1_ (by first | exact HA.out | exact HA.out.any rfl rfl rfl rfl | exact (HA.out.any rfl rfl rfl rfl).tail | exact (HA.out.any rfl rfl rfl rfl).tail.tail | exact (HA.out.any rfl rfl rfl rfl).tail.tail.tail) (i := 8) (l' := #[true, false, true, true, true, false, false, true, true, false, true, false, false, false, false, true, false, false, false, false, false]) (N := some 18)
  case hi => rfl
  case hN => rfl
  case hc => kernel_rfl
  case hop => rfl
  case hx => rfl
  case hw => rfl
  case hm => repeat (first | exact List.Mem.head _ | refine List.Mem.tail _ ?_)
  case ht => rfl
  case hv => rfl
  case hQ => exact fun _ _ _ h => h
  case ha => (simp only [Act.put, List.setIfInBounds_toArray, List.set_cons_zero, List.set_cons_succ, i64_w, i32_w]; rfl)
  apply take1_ (by first | exact HA.out | exact HA.out.any rfl rfl rfl rfl | exact (HA.out.any rfl rfl rfl rfl).tail | exact (HA.out.any rfl rfl rfl rfl).tail.tail | exact (HA.out.any rfl rfl rfl rfl).tail.tail.tail) (i := 11) (l' := #[true, false, true, true, true, false, false, true, true, false, true, true, false, false, false, true, false, false, false, false, false]) (N := some 21)
  case hi => rfl
  case hN => rfl
  case hc => kernel_rfl
  case hop => rfl
  case hx => rfl
  case hw => rfl
  case hm => repeat (first | exact List.Mem.head _ | refine List.Mem.tail _ ?_)
  case ht => rfl
  case hv => rfl
  case hQ => exact fun _ _ _ h => h
  case ha => (simp only [Act.put, List.setIfInBounds_toArray, List.set_cons_zero, List.set_cons_succ, i64_w, i32_w]; rfl)
  refine pure_ (i := 12) (N := some 22) (v := ?_) (a' := ?_) #[true, false, true, true, true, false, false, true, true, false, true, true, true, false, false, true, false, false, false, false, false] rfl rfl (by kernel_rfl) (fun _ _ _ h => h) (Or.inl ⟨by rfl, ?_⟩) ?_ ?_
  rotate_left
  · intro w'
    go_simp
    with_reducible rfl
  rotate_left
  · simp only [Act.put, List.setIfInBounds_toArray, List.set_cons_zero, List.set_cons_succ, i64_w, i32_w]
    rfl
  apply take1_ (by first | exact HA.out | exact HA.out.any rfl rfl rfl rfl | exact (HA.out.any rfl rfl rfl rfl).tail | exact (HA.out.any rfl rfl rfl rfl).tail.tail | exact (HA.out.any rfl rfl rfl rfl).tail.tail.tail) (i := 16) (l' := #[true, false, true, true, true, false, false, true, true, false, true, true, true, false, false, true, true, false, false, false, false]) (N := some 26)
  case hi => rfl
  case hN => rfl
  case hc => kernel_rfl
  case hop => rfl
  case hx => rfl
  case hw => rfl
  case hm => repeat (first | exact List.Mem.head _ | refine List.Mem.tail _ ?_)
  case ht => rfl
  case hv => rfl
  case hQ => exact fun _ _ _ h => h
  case ha => (simp only [Act.put, List.setIfInBounds_toArray, List.set_cons_zero, List.set_cons_succ, i64_w, i32_w]; rfl)
  refine one_ (i := 1) (N := some 11) #[true, true, true, true, true, false, false, true, true, false, true, true, true, false, false, true, true, false, false, false, false] rfl rfl (by kernel_rfl) (by decide) (fun K hK => ?_)
  apply call_e Try.func47 (args := #[.int .i64 2, .int .i64 1]); (case hname => kernel_rfl); (case hb => rfl); (case hop => rfl); (case hN => rfl); (case hw => rfl); (case hargs => ((try simp only [List.map_toArray, List.map_cons, List.map_nil]); first | done | rfl)); (case hcl => exact pumiceref06_put.calls 9 2 1 _ _ P1.out); rintro e w1 ⟨rfl, hb_⟩; refine ⟨_, rfl, ?_⟩; (have HB_ := HA.out.call1 hb_ rfl rfl rfl rfl; clear hb_ HA; have HA := Aside0.mk HB_; clear HB_)
  refine hK.out _ _ (by first | exact HA.out | exact HA.out.any rfl rfl rfl rfl | exact (HA.out.any rfl rfl rfl rfl).tail | exact (HA.out.any rfl rfl rfl rfl).tail.tail | exact (HA.out.any rfl rfl rfl rfl).tail.tail.tail) (fun hHeld => ?_)
  clear hK K
  refine norm_ (a' := ?_) ?_ ?_
  rotate_left
  · show Act.put _ (some 11) _ = _
    simp only [Act.put, List.setIfInBounds_toArray, List.set_cons_zero, List.set_cons_succ, i64_w, i32_w]
    rfl
  refine one_ (i := 5) (N := some 15) #[true, true, true, true, true, true, false, true, true, false, true, true, true, false, false, true, true, false, false, false, false] rfl rfl (by kernel_rfl) (by decide) (fun K hK => ?_)
  apply call_e Try.func47 (args := #[.int .i64 k.size, .int .i64 1]); (case hname => kernel_rfl); (case hb => rfl); (case hop => rfl); (case hN => rfl); (case hw => rfl); (case hargs => ((try simp only [List.map_toArray, List.map_cons, List.map_nil]); first | done | rfl)); (case hcl => exact pumiceref06_put.calls 9 k.size 1 _ _ P2.out); rintro e w1 ⟨rfl, hb_⟩; refine ⟨_, rfl, ?_⟩; (have HB_ := HA.out.call1 hb_ rfl rfl rfl rfl; clear hb_ HA; have HA := Aside0.mk HB_; clear HB_)
  refine hK.out _ _ (by first | exact HA.out | exact HA.out.any rfl rfl rfl rfl | exact (HA.out.any rfl rfl rfl rfl).tail | exact (HA.out.any rfl rfl rfl rfl).tail.tail | exact (HA.out.any rfl rfl rfl rfl).tail.tail.tail) (fun hHeld => ?_)
  clear hK K
  refine norm_ (a' := ?_) ?_ ?_
  rotate_left
  · show Act.put _ (some 15) _ = _
    simp only [Act.put, List.setIfInBounds_toArray, List.set_cons_zero, List.set_cons_succ, i64_w, i32_w]
    rfl
  refine take_ (i := 6) (N := some 16) (v := (.string (strOfNums (leBytes 2 1) ++ strOfNums (leBytes k.size 1)))) (a' := ?_) #[true, true, true, true, true, true, true, true, true, false, true, true, true, false, false, true, true, false, false, false, false] rfl rfl (by kernel_rfl) (fun _ _ _ h => h) (Or.inl ⟨by rfl, ?_⟩) (by first | exact HA.out | exact HA.out.any rfl rfl rfl rfl | exact (HA.out.any rfl rfl rfl rfl).tail | exact (HA.out.any rfl rfl rfl rfl).tail.tail | exact (HA.out.any rfl rfl rfl rfl).tail.tail.tail) ?_ ?_
  · intro w' s0
    (obtain ⟨c1, c2, c3, c4⟩ := Z.out; have c := c1; clear c1 c2 c3 c4; (try unfold packS); go_simp; try (simp only [ByteArray.size_append] at c; exact c))
  rotate_left
  · simp only [Act.put, List.setIfInBounds_toArray, List.set_cons_zero, List.set_cons_succ, i64_w, i32_w]
    rfl
  refine take_ (i := 9) (N := some 19) (v := (.string (strOfNums (leBytes 2 1) ++ strOfNums (leBytes k.size 1) ++ k))) (a' := ?_) #[true, true, true, true, true, true, true, true, true, true, true, true, true, false, false, true, true, false, false, false, false] rfl rfl (by kernel_rfl) (fun _ _ _ h => h) (Or.inl ⟨by rfl, ?_⟩) (by first | exact HA.out | exact HA.out.any rfl rfl rfl rfl | exact (HA.out.any rfl rfl rfl rfl).tail | exact (HA.out.any rfl rfl rfl rfl).tail.tail | exact (HA.out.any rfl rfl rfl rfl).tail.tail.tail) ?_ ?_
  · intro w' s0
    (obtain ⟨c1, c2, c3, c4⟩ := Z.out; have c := c2; clear c1 c2 c3 c4; (try unfold packS); go_simp; try (simp only [ByteArray.size_append] at c; exact c))
  rotate_left
  · simp only [Act.put, List.setIfInBounds_toArray, List.set_cons_zero, List.set_cons_succ, i64_w, i32_w]
    rfl
  refine one_ (i := 13) (N := some 23) #[true, true, true, true, true, true, true, true, true, true, true, true, true, true, false, true, true, false, false, false, false] rfl rfl (by kernel_rfl) (by decide) (fun K hK => ?_)
  apply call_e Try.func47 (args := #[.int .i64 v.size, .int .i64 2]); (case hname => kernel_rfl); (case hb => rfl); (case hop => rfl); (case hN => rfl); (case hw => rfl); (case hargs => ((try simp only [List.map_toArray, List.map_cons, List.map_nil]); first | done | rfl)); (case hcl => exact pumiceref06_put.calls 9 v.size 2 _ _ P3.out); rintro e w1 ⟨rfl, hb_⟩; refine ⟨_, rfl, ?_⟩; (have HB_ := HA.out.call1 hb_ rfl rfl rfl rfl; clear hb_ HA; have HA := Aside0.mk HB_; clear HB_)
  refine hK.out _ _ (by first | exact HA.out | exact HA.out.any rfl rfl rfl rfl | exact (HA.out.any rfl rfl rfl rfl).tail | exact (HA.out.any rfl rfl rfl rfl).tail.tail | exact (HA.out.any rfl rfl rfl rfl).tail.tail.tail) (fun hHeld => ?_)
  clear hK K
  refine norm_ (a' := ?_) ?_ ?_
  rotate_left
  · show Act.put _ (some 23) _ = _
    simp only [Act.put, List.setIfInBounds_toArray, List.set_cons_zero, List.set_cons_succ, i64_w, i32_w]
    rfl
  refine take_ (i := 14) (N := some 24) (v := (.string (strOfNums (leBytes 2 1) ++ strOfNums (leBytes k.size 1) ++ k ++ strOfNums (leBytes v.size 2)))) (a' := ?_) #[true, true, true, true, true, true, true, true, true, true, true, true, true, true, true, true, true, false, false, false, false] rfl rfl (by kernel_rfl) (fun _ _ _ h => h) (Or.inl ⟨by rfl, ?_⟩) (by first | exact HA.out | exact HA.out.any rfl rfl rfl rfl | exact (HA.out.any rfl rfl rfl rfl).tail | exact (HA.out.any rfl rfl rfl rfl).tail.tail | exact (HA.out.any rfl rfl rfl rfl).tail.tail.tail) ?_ ?_
  · intro w' s0
    (obtain ⟨c1, c2, c3, c4⟩ := Z.out; have c := c3; clear c1 c2 c3 c4; (try unfold packS); go_simp; try (simp only [ByteArray.size_append] at c; exact c))
  rotate_left
  · simp only [Act.put, List.setIfInBounds_toArray, List.set_cons_zero, List.set_cons_succ, i64_w, i32_w]
    rfl
  refine take_ (i := 17) (N := some 27) (v := (.string (packS k v 2))) (a' := ?_) #[true, true, true, true, true, true, true, true, true, true, true, true, true, true, true, true, true, true, false, false, false] rfl rfl (by kernel_rfl) (fun _ _ _ h => h) (Or.inl ⟨by rfl, ?_⟩) (by first | exact HA.out | exact HA.out.any rfl rfl rfl rfl | exact (HA.out.any rfl rfl rfl rfl).tail | exact (HA.out.any rfl rfl rfl rfl).tail.tail | exact (HA.out.any rfl rfl rfl rfl).tail.tail.tail) ?_ ?_
  · intro w' s0
    (obtain ⟨c1, c2, c3, c4⟩ := Z.out; have c := c4; clear c1 c2 c3 c4; (try unfold packS); go_simp; try (simp only [ByteArray.size_append] at c; exact c))
  rotate_left
  · simp only [Act.put, List.setIfInBounds_toArray, List.set_cons_zero, List.set_cons_succ, i64_w, i32_w]
    rfl
  refine one_ (i := 18) (N := some 28) #[true, true, true, true, true, true, true, true, true, true, true, true, true, true, true, true, true, true, true, false, false] rfl rfl (by kernel_rfl) (by decide) (fun K hK => ?_)
  (apply conv_e; (case HH => first | exact HA.out | exact HA.out.any rfl rfl rfl rfl); (case hop => rfl); (case hN => rfl); (case hw => rfl); (case hev => conv => lhs; whnf); (case hv => rfl); (case hs => exact Try.underlying9); (case hd => exact Try.underlying34); (case he => exact Try.underlying5); intro bs w1 os caps HB_ HSs hcaps; clear HA; have HA := Aside0.mk HB_; clear HB_; have HSs := Aside0.mk HSs; have hcaps := Aside0.mk hcaps)
  refine hK.out _ _ (by first | exact HA.out | exact HA.out.any rfl rfl rfl rfl | exact (HA.out.any rfl rfl rfl rfl).tail | exact (HA.out.any rfl rfl rfl rfl).tail.tail | exact (HA.out.any rfl rfl rfl rfl).tail.tail.tail) (fun hHeld => ?_)
  clear hK K
  refine norm_ (a' := ?_) ?_ ?_
  rotate_left
  · show Act.put _ (some 28) _ = _
    simp only [Act.put, List.setIfInBounds_toArray, List.set_cons_zero, List.set_cons_succ, i64_w, i32_w]
    rfl
  refine pure_ (i := 19) (N := some 2) (v := ?_) (a' := ?_) #[true, true, true, true, true, true, true, true, true, true, true, true, true, true, true, true, true, true, true, true, false] rfl rfl (by kernel_rfl) (fun _ _ _ h => h) (Or.inl ⟨by rfl, ?_⟩) ?_ ?_
  rotate_left
  · intro w'
    go_simp
    with_reducible rfl
  rotate_left
  · simp only [Act.put, List.setIfInBounds_toArray, List.set_cons_zero, List.set_cons_succ, i64_w, i32_w]
    rfl
  refine pure_ (i := 20) (N := some 3) (v := ?_) (a' := ?_) #[true, true, true, true, true, true, true, true, true, true, true, true, true, true, true, true, true, true, true, true, true] rfl rfl (by kernel_rfl) (fun _ _ _ h => h) (Or.inl ⟨by rfl, ?_⟩) ?_ ?_
  rotate_left
  · intro w'
    go_simp
    with_reducible rfl
  rotate_left
  · simp only [Act.put, List.setIfInBounds_toArray, List.set_cons_zero, List.set_cons_succ, i64_w, i32_w]
    rfl
  refine done_ (by kernel_rfl) ?_
  go_wp2
  (apply end_list [.tmp 2, .tmp 3]; (case hres => rfl); (case hd => rfl); (case hvs => apply Vals.tmp; apply Vals.tmp; exact .nil); (case hl => simp); (case hR => exact ⟨_, rfl, Kd.V_mk hcaps.out (Src.row_new HSs.out HA.out (by simp) ZB.out), HA.out.below⟩))
set_option maxHeartbeats 8000000 in
set_option maxRecDepth 100000 in
theorem pack_no (k v : ByteArray) (g : Bool) (w : World) (hr : pumiceref06_Right.f k v g = some false) :
    Calls Try.prog 19 #[.agg #[.string k, .string v, .bool g]] w fun e w' => ∃ v0_ : Value, e = .returned (.tuple #[v0_, .int .i64 22]) ∧ Kd.V (Kd.int .u8) 5 w' w.heap.size (fun k_ => w.heap.size ≤ k_) v0_ [] ∧ Below w.heap.size w w' := by
  have HR := Aside0.mk hr
  have HA := Aside0.mk (Holds.start w)
  clear hr
  go_enter Try.func19, Try.ntmps19
  go_wp2_with (first
    | ((with_reducible apply box_); (case HH => first | exact HA.out | exact HA.out.any rfl rfl rfl rfl); (case hw => rfl); (case hev => conv => lhs; whnf); (case hy => rfl); intro bx w1 HB_; simp only [Act.put, List.setIfInBounds_toArray, List.set_cons_zero, List.set_cons_succ]; clear HA; have HA := Aside0.mk HB_; clear HB_)
    | ((with_reducible apply load1_); (case HH => first | exact HA.out | exact HA.out.any rfl rfl rfl rfl); (case ht => rfl); (case hx => rfl); (case hw => rfl); (case hm => repeat (first | exact List.Mem.head _ | refine List.Mem.tail _ ?_)); (case hv => exact rfl); simp only [Act.put, List.setIfInBounds_toArray, List.set_cons_zero, List.set_cons_succ])
    | ((with_reducible apply loadN_ (n := 3)); (case HH => first | exact HA.out | exact HA.out.any rfl rfl rfl rfl); (case ht => rfl); (case hn => decide +kernel); (case hx => rfl); (case hw => rfl); (case hm => repeat (first | exact List.Mem.head _ | refine List.Mem.tail _ ?_)); (case hv => first | (simp only [List.drop_succ_cons, List.drop_zero, List.take_succ_cons, List.take_zero]; rfl) | rfl); (case hl => rfl); simp only [Act.put, List.setIfInBounds_toArray, List.set_cons_zero, List.set_cons_succ])
    | (go_at_call 23; (with_reducible apply Calls.mono); (case h => exact pumiceref06_Right.calls _ _ _ _ _ HR.out); rintro e w1 ⟨rfl, hb_⟩; have HB_ := HA.out.call1 hb_ rfl rfl rfl rfl; clear hb_ HA; have HA := Aside0.mk HB_; clear HB_))
  (apply end_list [.tmp 2, .tmp 3]; (case hres => rfl); (case hd => rfl); (case hvs => apply Vals.tmp; apply Vals.tmp; exact .nil); (case hl => simp); (case hR => exact ⟨_, rfl, Kd.V_nil _ _ _ _ _, HA.out.below⟩))
theorem pumiceref06_Pack.calls (a0_0 : ByteArray) (a0_1 : ByteArray) (a0_2 : Bool) (r1 : List Int) (r2 : Int) (w : World) (h : pumiceref06_Pack.f a0_0 a0_1 a0_2 = some (r1, r2)) :
    Calls Try.prog 19 #[.agg #[.string a0_0, .string a0_1, .bool a0_2]] w fun e w' => ∃ v0_ : Value, e = .returned (.tuple #[v0_, .int .i64 r2]) ∧ Kd.V (Kd.int .u8) 5 w' w.heap.size (fun k_ => w.heap.size ≤ k_) v0_ r1 ∧ Below w.heap.size w w' := by
  unfold pumiceref06_Pack.f at h
  obtain ⟨b, hb, h⟩ := Option.bind_eq_some_iff.mp h
  cases b with
  | false =>
    rw [if_neg (by simp)] at h
    simp only [Option.some.injEq, Prod.mk.injEq] at h
    obtain ⟨rfl, rfl⟩ := h
    exact pack_no _ _ _ w hb
  | true =>
    rw [if_pos rfl] at h
    simp only [Option.some.injEq, Prod.mk.injEq] at h
    obtain ⟨rfl, rfl⟩ := h
    cases a0_2 with
    | false => have := pack_f a0_0 a0_1 w hb; rw [packS_bytes] at this; exact this
    | true => have := pack_t a0_0 a0_1 w hb; rw [packS_bytes] at this; exact this
end Go.Proofs.Ytakchpeohmkpkaa.Q

namespace Go.Proofs.Ytakchpeohmkpkaa.Q
open Go.RowKit Go.Proofs.YtakchpeohmkpkaaW.PrintWords
set_option linter.unusedVariables false
set_option linter.unusedSimpArgs false
theorem right_same (k v : ByteArray) (g : Bool) : pumiceref06_Right.f k v g = node_Right.f k v g := by
  unfold pumiceref06_Right.f node_Right.f
  by_cases h1 : (k.size : Int) ≥ 1 <;> by_cases h2 : (k.size : Int) ≤ 64 <;> by_cases h3 : (v.size : Int) ≤ 256 <;> cases g <;> by_cases h4 : v.toList = [] <;> simp [h1, h2, h3, h4]
theorem right_some (k v : ByteArray) (g : Bool) : ∃ b, node_Right.f k v g = some b := by
  unfold node_Right.f
  by_cases h1 : (k.size : Int) ≥ 1 <;> by_cases h2 : (k.size : Int) ≤ 64 <;> by_cases h3 : (v.size : Int) ≤ 256 <;> cases g <;> by_cases h4 : v.toList = [] <;> simp [h1, h2, h3, h4]
end Go.Proofs.Ytakchpeohmkpkaa.Q

namespace Go.Proofs.Ytakchpeohmkpkaa.Q
open Go.RowKit Go.Proofs.YtakchpeohmkpkaaW.PrintWords Go.Proofs.YtakchpeohmkpkaaW.PrintLast Go.Proofs.YtakchpeohmkpkaaW.PrintMore
set_option linter.unusedVariables false
set_option linter.unusedSimpArgs false

/-- The two chars. -/
def two2 : ByteArray := ⟨#[47, 0]⟩
/-- Has a text one of them? -/
def hasBad (l : List UInt8) : Bool := l.any fun b => b == 47 || b == 0
def NoBad (s : ByteArray) (i : Nat) : Prop := ∀ j (hj : j < s.size), j < i → (s[j]'hj) ≠ 47 ∧ (s[j]'hj) ≠ 0
theorem NoBad.zero (s : ByteArray) : NoBad s 0 := fun _ _ h => absurd h (Nat.not_lt_zero _)
theorem NoBad.succ {s : ByteArray} {i : Nat} (h : NoBad s i) (hi : i < s.size) (h1 : s[i]'hi ≠ 47) (h2 : s[i]'hi ≠ 0) : NoBad s (i + 1) := by
  intro j hj hl
  rcases Nat.lt_or_ge j i with h3 | h3
  · exact h j hj h3
  · obtain rfl : j = i := by omega
    exact ⟨h1, h2⟩
theorem NoBad.high {s : ByteArray} {i d : Nat} (h : NoBad s i) (hd : ∀ j (hj : j < s.size), i ≤ j → j < i + d → 128 ≤ (s[j]'hj).toNat) : NoBad s (i + d) := by
  intro j hj hl
  rcases Nat.lt_or_ge j i with h3 | h3
  · exact h j hj h3
  · have := hd j hj h3 hl
    refine ⟨fun e => ?_, fun e => ?_⟩ <;> rw [e] at this <;> exact absurd this (by decide)
theorem NoBad.all {s : ByteArray} (h : NoBad s s.size) : hasBad s.data.toList = false := by
  unfold hasBad
  rw [List.any_eq_false]
  intro b hb
  obtain ⟨j, hj, rfl⟩ := List.mem_iff_getElem.1 hb
  have hj' : j < s.size := by simpa using hj
  have := h j hj' hj'
  have e : (s[j]'hj') = s.data.toList[j] := by simp [ByteArray.getElem_eq_getElem_data]
  rw [e] at this
  simp only [Array.getElem_toList] at this
  simp [this.1, this.2]
theorem hasBad_at {s : ByteArray} {i : Nat} (hi : i < s.size) (h : s[i]'hi = 47 ∨ s[i]'hi = 0) : hasBad s.data.toList = true := by
  unfold hasBad
  rw [List.any_eq_true]
  refine ⟨s[i]'hi, ?_, ?_⟩
  · rw [ByteArray.getElem_eq_getElem_data]
    simp
  · rcases h with h | h <;> simp [h]

theorem decode_end (s : ByteArray) (pos : Nat) (h : pos < s.size) : pos + (Utf8.decode s pos).2 ≤ s.size := by
  simp only [Utf8.decode]
  repeat' split
  all_goals simp_all
  all_goals omega
theorem get_lt (s : ByteArray) (j : Nat) (h : j < s.size) : s.get! j = s[j]'h := by simpa using get_at s j h
theorem decode_skip (s : ByteArray) (pos : Nat) (h : pos < s.size) (ha : 128 ≤ (s[pos]'h).toNat) (j : Nat) (hj : j < s.size) (h1 : pos ≤ j) (h2 : j < pos + (Utf8.decode s pos).2) : 128 ≤ (s[j]'hj).toNat := by
  rcases Nat.eq_or_lt_of_le h1 with rfl | h3
  · exact ha
  · have hc : ∀ k, pos + k = j → (s.get! (pos + k)).toNat / 64 = 2 → 128 ≤ (s[j]'hj).toNat := by
      intro k hk hk2
      subst hk
      rw [get_lt s _ hj] at hk2
      omega
    revert h2
    simp only [Utf8.decode]
    intro h2
    have hd : ∀ n, (n = 1 ∨ (n = 2 ∧ (s.get! (pos + 1)).toNat / 64 = 2) ∨ (n = 3 ∧ (s.get! (pos + 1)).toNat / 64 = 2 ∧ (s.get! (pos + 2)).toNat / 64 = 2) ∨ (n = 4 ∧ (s.get! (pos + 1)).toNat / 64 = 2 ∧ (s.get! (pos + 2)).toNat / 64 = 2 ∧ (s.get! (pos + 3)).toNat / 64 = 2)) → j < pos + n → 128 ≤ (s[j]'hj).toNat := by
      intro n hn hl
      have hj3 : j = pos + 1 ∨ j = pos + 2 ∨ j = pos + 3 := by omega
      rcases hj3 with e | e | e
      · exact hc 1 e.symm (by omega)
      · exact hc 2 e.symm (by omega)
      · exact hc 3 e.symm (by omega)
    refine hd _ ?_ h2
    repeat' split
    all_goals simp_all

set_option maxHeartbeats 1000000 in
set_option maxRecDepth 100000 in
theorem sliteIndexByte_calls (s : ByteArray) (c : Int) (w : World) : Calls Try.prog 83 #[.string s, .int .u8 c] w fun e w' => e = .returned (.int .i64 (Lib.indexByte s.data.toList c.toNat.toUInt8)) ∧ w' = w := by
  go_enter Try.func83, Try.ntmps83
  go_wp2
  rw [run_callFunc_extern Try.func84 (by kernel_rfl) (by kernel_rfl) (by kernel_rfl) (e := Extern.BytealgIndexByte.indexByte) (by kernel_rfl), Lib.run_indexByteString]
  simp only [Result.andThen]
  rw [Oper.upon_value]
  go_wp2
  go_ret
  exact ⟨rfl, rfl⟩
set_option maxHeartbeats 1000000 in
theorem indexByte_calls (s : ByteArray) (c : Int) (w : World) : Calls Try.prog 79 #[.string s, .int .u8 c] w fun e w' => e = .returned (.int .i64 (Lib.indexByte s.data.toList c.toNat.toUInt8)) ∧ w' = w := by
  go_enter Try.func79, Try.ntmps79
  go_wp2_with (go_at_call 83; refine (sliteIndexByte_calls _ _ _).mono ?_; rintro e w' ⟨rfl, rfl⟩)
  go_ret
  exact ⟨rfl, rfl⟩
theorem validRune_calls (r : Int) (w : World) (h0 : 128 ≤ r) (h1 : r ≤ 2147483647) : Calls Try.prog 80 #[.int .i32 r] w fun e w' => e = .returned (.bool (Utf8.valid r)) ∧ w' = w := by
  have d0 : decide ((0 : Int) ≤ r) = true := decide_eq_true (by omega)
  by_cases h2 : r < 55296
  · have d1 : decide (r < 55296) = true := decide_eq_true h2
    go_enter Try.func80, Try.ntmps80
    go_wp2
    go_ret
    exact ⟨by simp [Utf8.valid, d0, d1], rfl⟩
  · have d1 : decide (r < 55296) = false := decide_eq_false h2
    by_cases h3 : 57343 < r
    · have d2 : decide (57343 < r) = true := decide_eq_true h3
      by_cases h4 : r ≤ 1114111
      · have d3 : decide (r ≤ 1114111) = true := decide_eq_true h4
        go_enter Try.func80, Try.ntmps80
        go_wp2
        go_ret
        refine ⟨?_, rfl⟩
        simp [Utf8.valid]
        omega
      · have d3 : decide (r ≤ 1114111) = false := decide_eq_false h4
        go_enter Try.func80, Try.ntmps80
        go_wp2
        go_ret
        refine ⟨?_, rfl⟩
        simp [Utf8.valid]
        omega
    · have d2 : decide (57343 < r) = false := decide_eq_false h3
      go_enter Try.func80, Try.ntmps80
      go_wp2
      go_ret
      refine ⟨?_, rfl⟩
      simp [Utf8.valid]
      omega

set_option maxHeartbeats 2000000 in
set_option maxRecDepth 1000000 in
theorem rune_low (s : ByteArray) (r : Int) (w : World) (h0 : 0 ≤ r) (h1 : r < 128) : Calls Try.prog 75 #[.string s, .int .i32 r] w fun e w' => e = .returned (.int .i64 (Lib.indexByte s.data.toList r.toNat.toUInt8)) ∧ w' = w := by
  go_enter Try.func75, Try.ntmps75
  go_wp2_with (go_at_call 79; refine (indexByte_calls _ _ _).mono ?_; rintro e w' ⟨rfl, hw⟩; rw [hw])
  go_ret
  exact ⟨rfl, rfl⟩
set_option maxHeartbeats 2000000 in
set_option maxRecDepth 1000000 in
theorem rune_bad (s : ByteArray) (r : Int) (w : World) (h0 : 128 ≤ r) (h1 : r ≤ 2147483647) (h2 : r ≠ 65533) (hv : Utf8.valid r = false) : Calls Try.prog 75 #[.string s, .int .i32 r] w fun e w' => e = .returned (.int .i64 (-1)) ∧ w' = w := by
  have n1 : (r == 65533) = false := beq_eq_false_iff_ne.2 h2
  go_enter Try.func75, Try.ntmps75
  go_wp2_with (go_at_call 80; refine (validRune_calls r _ h0 h1).mono ?_; rintro e w' ⟨rfl, hw⟩; rw [hw, hv])
  go_ret
  exact ⟨rfl, rfl⟩
set_option maxHeartbeats 2000000 in
set_option maxRecDepth 1000000 in
theorem rune_error (w : World) : Calls Try.prog 75 #[.string two2, .int .i32 65533] w fun e w' => e = .returned (.int .i64 (-1)) ∧ Below w.heap.size w w' := by
  unfold two2
  go_enter Try.func75, Try.ntmps75
  go_wp2
  go_loopg [5, 6] 2 (fun g _ _ wx => ∃ i : Nat, i + g = 2 ∧ wx = w.iter ⟨#[47, 0]⟩ i)
  case atStart => exact ⟨0, by omega, rfl⟩
  case round =>
    obtain ⟨i, hig, rfl⟩ := hrel
    cases gk with
    | zero =>
      obtain rfl : i = 2 := by omega
      have hnx := run_next_end (P := Try.prog) w ⟨#[47, 0]⟩ 2
      simp only [show ¬ 2 < (⟨#[47, 0]⟩ : ByteArray).size from by decide, not_false_eq_true, forall_const] at hnx
      go_wp2
      go_ret
      exact ⟨rfl, (Below.refl _ _).alloc (Nat.le_refl _) _⟩
    | succ g =>
      have hi : i = 0 ∨ i = 1 := by omega
      rcases hi with rfl | rfl
      · have hnx := fun ty => run_next_ascii (P := Try.prog) w ⟨#[47, 0]⟩ 0 ty (by decide) (by decide)
        simp only [show ((⟨#[47, 0]⟩ : ByteArray)[0]'(by decide)).toNat = 47 from rfl] at hnx
        go_wp2
        go_roundg 1
        case measure => omega
        case rel => exact ⟨1, by omega, rfl⟩
      · have hnx := fun ty => run_next_ascii (P := Try.prog) w ⟨#[47, 0]⟩ 1 ty (by decide) (by decide)
        simp only [show ((⟨#[47, 0]⟩ : ByteArray)[1]'(by decide)).toNat = 0 from rfl] at hnx
        go_wp2
        go_roundg 0
        case measure => omega
        case rel => exact ⟨2, by omega, rfl⟩

theorem encode_last (r : Int) (hv : Utf8.valid r = true) (h : 128 ≤ r) : 2 ≤ (Utf8.encode r).size ∧ (Utf8.encode r).size ≤ 4 ∧ ∀ h2 : 1 < (Utf8.encode r).size, (Utf8.encode r).size = 2 → 128 ≤ ((Utf8.encode r)[1]'h2).toNat := by
  obtain ⟨h1, h2, h3⟩ := encode_facts r hv h
  refine ⟨h1, h2, fun h4 h5 => ?_⟩
  have := h3 (by omega)
  simpa [h5] using this
set_option maxHeartbeats 4000000 in
set_option maxRecDepth 1000000 in
theorem rune_high2 (r : Int) (w : World) (h0 : 128 ≤ r) (h1 : r ≤ 2147483647) (h2 : r ≠ 65533) (hv : Utf8.valid r = true) (h4 : (Utf8.encode r).size = 2) : Calls Try.prog 75 #[.string two2, .int .i32 r] w fun e w' => e = .returned (.int .i64 (-1)) ∧ Below w.heap.size w w' := by
  have n1 : (r == 65533) = false := beq_eq_false_iff_ne.2 h2
  have hz := (encode_last r hv h0).2.2 (by omega) h4
  unfold two2
  obtain ⟨rs, hrs⟩ : ∃ rs, Utf8.encode r = rs := ⟨_, rfl⟩
  obtain ⟨x, hx⟩ : ∃ x : UInt8, (Utf8.encode r)[1]'(by omega) = x := ⟨_, rfl⟩
  rw [hx] at hz
  simp only [hrs] at h4 hx
  have hw2 : IntKind.i64.wrap 2 = 2 := by decide
  have hcmp : ((((⟨#[47, 0]⟩ : ByteArray)[1]'(by decide)).toNat : Int) != (x.toNat : Int)) = true := by
    show ((0 : Int) != (x.toNat : Int)) = true
    rw [bne_iff_ne]
    omega
  go_enter Try.func75, Try.ntmps75
  go_wp2_with (go_at_call 80; refine (validRune_calls r _ h0 h1).mono ?_; rintro e w' ⟨rfl, hw⟩; rw [hw, hv])
  go_step3
  go_wp2
  go_loopg [9] 0 (fun g s9 wx => s9 = .int .i64 1 ∧ wx = w)
  case atStart => exact ⟨by first | rfl | (simp [h4]; done) | (simp [h4, wrap64]; done), by first | exact hw | rfl⟩
  case round =>
    obtain ⟨rfl, rfl⟩ := hrel
    go_wp2
    go_step3
    go_wp2
    go_region
    all_goals go_wp2
    all_goals
      go_region_law (
        refine goes_ Try.func79 (by kernel_rfl) rfl #[.string ByteArray.empty, .int .u8 (x.toNat : Int)] (by rfl) rfl rfl (by first | rfl | (simp [Act.eval]; done)) ?_
        refine (indexByte_calls _ _ _).mono ?_
        rintro e w1 ⟨rfl, hw1⟩
        refine ⟨_, rfl, ?_⟩
        rw [hw1])
    all_goals go_wp2
    all_goals
      rw [Exit.noGoto_ret]
      (try simp only [Exit.inBlock, Exit.then])
      rw [Exit.noGoto_ret]
      go_ret
      exact ⟨rfl, by repeat (first | exact Below.refl _ _ | apply below_drew1)⟩
set_option maxHeartbeats 4000000 in
set_option maxRecDepth 1000000 in
theorem rune_high3 (r : Int) (m : Nat) (w : World) (h0 : 128 ≤ r) (h1 : r ≤ 2147483647) (h2 : r ≠ 65533) (hv : Utf8.valid r = true) (h4 : (Utf8.encode r).size = m + 3) (hm : m ≤ 1) : Calls Try.prog 75 #[.string two2, .int .i32 r] w fun e w' => e = .returned (.int .i64 (-1)) ∧ w' = w := by
  have n1 : (r == 65533) = false := beq_eq_false_iff_ne.2 h2
  unfold two2
  obtain ⟨rs, hrs⟩ : ∃ rs, Utf8.encode r = rs := ⟨_, rfl⟩
  simp only [hrs] at h4
  have hm2 : ¬ ((m : Int) + 2 < 2) := by omega
  go_enter Try.func75, Try.ntmps75
  go_wp2_with (go_at_call 80; refine (validRune_calls r _ h0 h1).mono ?_; rintro e w' ⟨rfl, hw⟩; rw [hw, hv])
  go_step3
  go_wp2
  go_loopg [9] 0 (fun g s9 wx => s9 = .int .i64 ((m : Int) + 2) ∧ wx = w)
  case atStart => exact ⟨by first | rfl | (simp [h4]; done) | (simp [h4, wrap64]; omega), by first | exact hw | rfl⟩
  case round =>
    obtain ⟨rfl, rfl⟩ := hrel
    go_wp2
    rw [Exit.noGoto_ret]
    go_ret
    exact ⟨rfl, rfl⟩

end Go.Proofs.Ytakchpeohmkpkaa.Q

namespace Go.Proofs.Ytakchpeohmkpkaa.Q
open Go.RowKit Go.Proofs.YtakchpeohmkpkaaW.PrintWords Go.Proofs.YtakchpeohmkpkaaW.PrintLast Go.Proofs.YtakchpeohmkpkaaW.PrintMore
set_option linter.unusedVariables false
set_option linter.unusedSimpArgs false


theorem rune_any (r : Int) (w : World) (h0 : 128 ≤ r) (h1 : r ≤ 2147483647) : Calls Try.prog 75 #[.string two2, .int .i32 r] w fun e w' => e = .returned (.int .i64 (-1)) ∧ Below w.heap.size w w' := by
  by_cases h2 : r = 65533
  · subst h2; exact rune_error w
  cases hv : Utf8.valid r with
  | false => exact (rune_bad two2 r w h0 h1 h2 hv).mono fun e w' h => ⟨h.1, h.2 ▸ Below.refl _ _⟩
  | true =>
    obtain ⟨e1, e2, _⟩ := encode_last r hv h0
    by_cases h4 : (Utf8.encode r).size = 2
    · exact rune_high2 r w h0 h1 h2 hv h4
    · exact (rune_high3 r ((Utf8.encode r).size - 3) w h0 h1 h2 hv (by omega) (by omega)).mono fun e w' h => ⟨h.1, h.2 ▸ Below.refl _ _⟩

set_option maxHeartbeats 1000000 in
theorem useSet_calls (n : Int) (w : World) : Calls Try.prog 76 #[.int .i64 n] w fun e w' => e = .returned (.bool (decide (8 < n))) ∧ w' = w := by
  go_enter Try.func76, Try.ntmps76
  go_wp2
  go_ret
  exact ⟨rfl, rfl⟩

/-- A string's iterator stands at i. -/
structure IterAt (w wx : World) (s : ByteArray) (i : Nat) : Prop where
  at_ : wx.heap[w.heap.size]? = some (.stringIter s i)
  below : Below w.heap.size w wx
theorem IterAt.set {w wx : World} {s : ByteArray} {i j : Nat} (h : IterAt w wx s i) : IterAt w (wx.iterAt w.heap.size s j) s j := by
  refine ⟨Lib.iterAt_heap wx w.heap.size s i j h.at_, h.below.trans ⟨rfl, rfl, rfl, by simp [World.iterAt], fun k hk => ?_⟩⟩
  simp only [World.iterAt]
  rw [Array.getElem?_setIfInBounds_ne (by omega)]
theorem IterAt.past {w wx w1 : World} {s : ByteArray} {i : Nat} (h : IterAt w wx s i) (hb : Below wx.heap.size wx w1) : IterAt w w1 s i :=
  ⟨(hb.block _ (Array.getElem?_eq_some_iff.1 h.at_).1).trans h.at_, h.below.trans (hb.mono h.below.size)⟩

theorem idx_low (x : UInt8) : (0 ≤ Lib.indexByte two2.data.toList x) ↔ (x = 47 ∨ x = 0) := by
  unfold two2
  simp only [Lib.indexByte]
  by_cases h1 : x = 47
  · subst h1; simp
  · by_cases h2 : x = 0
    · subst h2; decide
    · have e1 : ((47 : UInt8) == x) = false := beq_eq_false_iff_ne.2 (fun e => h1 e.symm)
      have e2 : ((0 : UInt8) == x) = false := beq_eq_false_iff_ne.2 (fun e => h2 e.symm)
      simp [e1, e2, h1, h2]

set_option maxHeartbeats 8000000 in
set_option maxRecDepth 1000000 in
theorem any_short (s : ByteArray) (w : World) (h8 : s.size ≤ 8) : Calls Try.prog 70 #[.string s, .string two2] w fun e w' => (∃ i : Int, e = .returned (.int .i64 i) ∧ decide (0 ≤ i) = hasBad s.data.toList) ∧ Below w.heap.size w w' := by
  have h8z : decide ((8 : Int) < (s.size : Int)) = false := decide_eq_false (by omega)
  unfold two2
  have hemp : (⟨#[47, 0]⟩ : ByteArray).toList.isEmpty = false := by rw [Lib.toList_data]; rfl
  have hn1 : (((⟨#[47, 0]⟩ : ByteArray).size : Int) == 1) = false := by decide
  go_enter Try.func70, Try.ntmps70
  go_wp2_with (go_at_call 76; refine (useSet_calls _ _).mono ?_; rintro e w' ⟨rfl, hw⟩; rw [hw, h8z])
  go_loopg [9, 10] s.size (fun g _ _ wx => ∃ i : Nat, i + g = s.size ∧ IterAt w wx s i ∧ NoBad s i)
  case atStart => exact ⟨0, by omega, ⟨World.iter_heap w s 0, (Below.refl _ _).alloc (Nat.le_refl _) _⟩, NoBad.zero _⟩
  case round =>
    obtain ⟨i, hig, hit, hno⟩ := hrel
    have HN : Aside (NoBad s i) := hno
    have HI : Aside (IterAt w wr s i) := hit
    clear hno hit
    cases gk with
    | zero =>
      obtain rfl : i = s.size := by omega
      have hnx := fun ty => Lib.run_next_end_at (P := Try.prog) wr w.heap.size s s.size ty HI.out.at_ (by omega)
      go_wp2
      go_ret
      exact ⟨⟨_, rfl, by rw [HN.out.all]; rfl⟩, HI.out.below⟩
    | succ g =>
      have hi : i < s.size := by omega
      obtain ⟨x, hx⟩ : ∃ x : UInt8, s[i]'hi = x := ⟨_, rfl⟩
      by_cases hx128 : x.toNat < 128
      · have hnx := fun ty => Lib.run_next_ascii_at (P := Try.prog) wr w.heap.size s i ty HI.out.at_ hi (by rw [hx]; exact hx128)
        rw [hx] at hnx
        have HI2 : Aside (IterAt w (wr.iterAt w.heap.size s (i + 1)) s (i + 1)) := HI.out.set
        have hback : ((x.toNat : Int)).toNat.toUInt8 = x := by simp
        have hlow := idx_low x
        unfold two2 at hlow
        by_cases hin : x = 47 ∨ x = 0
        · have hge : (0 : Int) ≤ Lib.indexByte (⟨#[47, 0]⟩ : ByteArray).data.toList x := hlow.2 hin
          have hbad := hasBad_at hi (by rw [hx]; exact hin)
          clear hlow
          go_wp2_with (go_at_call 75; refine (rune_low _ _ _ (by omega) (by omega)).mono ?_; rintro e w' ⟨rfl, hw⟩; rw [hw, hback])
          go_ret
          exact ⟨⟨_, rfl, by rw [hbad]; exact decide_eq_true (by omega)⟩, HI2.out.below⟩
        · have hlt : ¬ ((0 : Int) ≤ Lib.indexByte (⟨#[47, 0]⟩ : ByteArray).data.toList x) := fun h => hin (hlow.1 h)
          clear hlow
          go_wp2_with (go_at_call 75; refine (rune_low _ _ _ (by omega) (by omega)).mono ?_; rintro e w' ⟨rfl, hw⟩; rw [hw, hback])
          go_roundg g
          case measure => omega
          case rel => exact ⟨i + 1, by omega, HI2.out, HN.out.succ hi (by rw [hx]; exact fun e => hin (.inl e)) (by rw [hx]; exact fun e => hin (.inr e))⟩
      · have hnx := fun ty => Lib.run_next_any_at (P := Try.prog) wr w.heap.size s i ty HI.out.at_ hi
        obtain ⟨d1, d2⟩ := decode_high s i hi (by rw [hx]; omega)
        have d3 := decode_le s i
        have d4 := decode_end s i hi
        have HS : Aside (∀ j (hj : j < s.size), i ≤ j → j < i + (Utf8.decode s i).2 → 128 ≤ (s[j]'hj).toNat) := fun j hj h1 h2 => decode_skip s i hi (by rw [hx]; omega) j hj h1 h2
        have HI2 : Aside (IterAt w (wr.iterAt w.heap.size s (i + (Utf8.decode s i).2)) s (i + (Utf8.decode s i).2)) := HI.out.set
        obtain ⟨r, hr⟩ : ∃ r, (Utf8.decode s i).1 = r := ⟨_, rfl⟩
        obtain ⟨d, hd⟩ : ∃ d, (Utf8.decode s i).2 = d := ⟨_, rfl⟩
        rw [hr, hd] at hnx
        rw [hr] at d1 d3
        rw [hd] at d2 d4 HS HI2
        have hra := rune_any (r : Int)
        unfold two2 at hra
        have hra2 := fun w => hra w (by omega) (by omega)
        clear hra
        go_wp2_with (go_at_call 75; (with_reducible refine (hra2 _).mono ?_); rintro e w' ⟨rfl, hw⟩; have HI3 := Aside0.mk (HI2.out.past hw))
        go_roundg (s.size - (i + d))
        case measure => omega
        case rel => exact ⟨i + d, by omega, HI3.out, HN.out.high HS.out⟩

theorem zero_set : (∀ w, (zeroValue 91).run Try.prog w = .ok (.agg (Array.replicate 256 (.bool false))) w) ∧ (Try.prog.info? 91).map (·.size) = some 256 :=
  have h : (Try.prog.info? 91).map (fun i => (i.zero, i.size)) = some (some (.agg (Array.replicate 256 (.bool false))), 256) := by kernel_rfl
  Go.zero_of_info h

set_option maxHeartbeats 4000000 in
set_option maxRecDepth 1000000 in
theorem makeSet_calls (chars : ByteArray) (w : World) (hs : chars.size < 4294967281) (hascii : ∀ (j : Nat) b, chars.data.toList[j]? = some b → b.toNat < 128) :
    Calls Try.prog 77 #[.string chars] w fun e w' => e = .returned (.tuple #[.agg (Lib.setCells chars.data.toList), .bool true]) ∧ w' = w.alloc (.cells (Lib.setCells chars.data.toList) 91) := by
  obtain ⟨hv116, hi116⟩ := zero_set
  have HA : Aside (∀ (j : Nat) b, chars.data.toList[j]? = some b → b.toNat < 128) := hascii
  clear hascii
  have tS := Try.underlying91
  go_enter Try.func77, Try.ntmps77
  go_wp2
  rw [← Lib.setCells_nil]
  go_loopg [4] chars.size (fun g s4 wx => ∃ i : Nat, i + g = chars.size ∧ s4 = .int .i64 i ∧ wx = w.alloc (.cells (Lib.setCells (chars.data.toList.take i)) 91))
  case atStart => exact ⟨0, by omega, rfl, rfl⟩
  case round =>
    obtain ⟨i, hig, rfl, rfl⟩ := hrel
    cases gk with
    | zero =>
      obtain rfl : i = chars.size := by omega
      have hiz : ¬ ((chars.size : Int) < (chars.size : Int)) := by omega
      rw [show chars.data.toList.take chars.size = chars.data.toList from List.take_of_length_le (by rw [← Lib.size_eq]; exact Nat.le_refl _)]
      have hld := run_loadVar_new (P := Try.prog) w 91 (Lib.setCells chars.data.toList) 256 4 tS (by rw [Lib.setCells_size]; exact hi116)
      have hsz := Lib.setCells_size chars.data.toList
      have hlc := run_loadCellsFrom_new (P := Try.prog) w 91 (Lib.setCells chars.data.toList) 256 hsz
      have hsc := run_storeCells_new (P := Try.prog) w 91 (Lib.setCells chars.data.toList) (Lib.setCells chars.data.toList) (by rw [hsz]; exact hi116) rfl (Lib.setCells_one _)
      have hl : (Instr.loadAt 91 (.pointer (some ⟨w.heap.size, 0, none⟩))).run Try.prog (w.alloc (.cells (Lib.setCells chars.data.toList) 91)) = .ok (.agg (Lib.setCells chars.data.toList)) (w.alloc (.cells (Lib.setCells chars.data.toList) 91)) := by
        simp [Instr.loadAt, Instr.sureAddr, asAddr, Result.andThen, hld]
      have hst : (Instr.storeAt 91 (.pointer (some ⟨w.heap.size, 0, none⟩)) (.agg (Lib.setCells chars.data.toList))).run Try.prog (w.alloc (.cells (Lib.setCells chars.data.toList) 91)) = .ok () (w.alloc (.cells (Lib.setCells chars.data.toList) 91)) := by
        have := run_storeVar_new (P := Try.prog) w 91 (Lib.setCells chars.data.toList) (Lib.setCells chars.data.toList) (by rw [hsz]; exact hi116) rfl (Lib.setCells_one _)
        simp [Instr.storeAt, Instr.sureAddr, asAddr, Result.andThen, this]
      go_wp2
      unfold Oper.wp
      have hrun : ∀ (f : Operand → Value) (o : Oper), f (.tmp 2) = .pointer (some ⟨w.heap.size, 0, none⟩) → o.op = .load 91 (.tmp 2) → (execOp f o).run Try.prog (w.alloc (.cells (Lib.setCells chars.data.toList) 91)) = .ok (.value (.agg (Lib.setCells chars.data.toList))) (w.alloc (.cells (Lib.setCells chars.data.toList) 91)) := fun f o h1 h2 => by simp [execOp, h1, h2, hl, Result.andThen]
      rw [hrun _ _ rfl rfl, Oper.upon_value]
      go_wp2
      (try simp only [Exit.inBlock, Exit.then])
      refine bodyPost_ret (v := .tuple #[.agg (Lib.setCells chars.data.toList), .bool true]) ?_ rfl ⟨rfl, rfl⟩
      rw [results_cell_tmp rfl]
      simp [asAddr, Result.andThen, hld]
    | succ g =>
      have hi : i < chars.size := by omega
      have hiz : (i : Int) < (chars.size : Int) := by omega
      obtain ⟨x, hx⟩ : ∃ x : UInt8, chars[i]'hi = x := ⟨_, rfl⟩
      have hxl : chars.data.toList[i]? = some x := by rw [← hx]; exact Lib.data_getElem? chars i hi
      have hx128 : ¬ ((128 : Int) ≤ (x.toNat : Int)) := by have := HA.out i x hxl; omega
      have hx256 : (x.toNat : Int) < 256 := by have := HA.out i x hxl; omega
      have hcell := Lib.setCells_at (chars.data.toList.take i) x
      have Hx : Aside (chars.data.toList[i]? = some x) := hxl
      clear hxl
      go_wp2
      go_roundg g
      case measure => omega
      case rel => exact ⟨i + 1, by omega, by first | rfl | simp, by rw [List.take_add_one, Hx.out]; simp only [Option.toList]; rw [Lib.setCells_snoc]⟩

set_option maxHeartbeats 2000000 in
set_option maxRecDepth 1000000 in
theorem contains_calls (b : Nat) (x : UInt8) (v : Bool) (w : World) (hc : w.cell? ⟨b, x.toNat, none⟩ = some (.bool v)) :
    Calls Try.prog 78 #[.pointer (some ⟨b, 0, none⟩), .int .u8 x.toNat] w fun e w' => e = .returned (.bool v) ∧ w' = w := by
  have hx256 : (x.toNat : Int) < 256 := by have := UInt8.toNat_lt x; omega
  go_enter Try.func78, Try.ntmps78
  go_wp2
  go_ret
  exact ⟨rfl, rfl⟩

set_option maxHeartbeats 8000000 in
set_option maxRecDepth 1000000 in
theorem any_long (s : ByteArray) (w : World) (h8 : 8 < s.size) (hs : s.size ≤ 281474976710656) : Calls Try.prog 70 #[.string s, .string two2] w fun e w' => (∃ i : Int, e = .returned (.int .i64 i) ∧ decide (0 ≤ i) = hasBad s.data.toList) ∧ Below w.heap.size w w' := by
  obtain ⟨hv116, hi116⟩ := zero_set
  have hM := makeSet_calls two2 w (by decide) (by
    intro j b hb
    have hm := List.mem_of_getElem? hb
    have : b = 47 ∨ b = 0 := by simpa [two2] using hm
    rcases this with rfl | rfl <;> decide)
  obtain ⟨cl, hcl⟩ : ∃ l : List UInt8, two2.data.toList = l := ⟨_, rfl⟩
  rw [hcl] at hM
  have HCL := Aside0.mk hcl
  clear hcl
  have hemp : (⟨#[47, 0]⟩ : ByteArray).toList.isEmpty = false := by rw [Lib.toList_data]; rfl
  have hn1 : (((⟨#[47, 0]⟩ : ByteArray).size : Int) == 1) = false := by decide
  have h8z : decide ((8 : Int) < (s.size : Int)) = true := decide_eq_true (by omega)
  have hsc : (storeCells ⟨w.heap.size + 1, 0, none⟩ (Lib.setCells cl).toList 0).run Try.prog ((w.alloc (.cells (Lib.setCells cl) 91)).alloc (.cells (Array.replicate 256 (.bool false)) 91)) = .ok () ((w.alloc (.cells (Lib.setCells cl) 91)).alloc (.cells (Lib.setCells cl) 91)) := by
    have := run_storeCells_new (P := Try.prog) (w.alloc (.cells (Lib.setCells cl) 91)) 91 (Array.replicate 256 (.bool false)) (Lib.setCells cl) (by rw [Lib.setCells_size]; exact hi116) (by rw [Lib.setCells_size, Array.size_replicate]) (Lib.setCells_one _)
    simpa using this
  have hsz := Lib.setCells_size cl
  have hcellAt : ∀ x : UInt8, ((w.alloc (.cells (Lib.setCells cl) 91)).alloc (.cells (Lib.setCells cl) 91)).cell? ⟨w.heap.size + 1, x.toNat, none⟩ = some (.bool (cl.contains x)) := fun x => by
    rw [World.cell?_alloc_at _ _ _ _ (by simp), Lib.setCells_at]
  have HC : Aside (∀ x : UInt8, ((w.alloc (.cells (Lib.setCells cl) 91)).alloc (.cells (Lib.setCells cl) 91)).cell? ⟨w.heap.size + 1, x.toNat, none⟩ = some (.bool (cl.contains x))) := hcellAt
  clear hcellAt
  have tS := Try.underlying91
  unfold two2 at hM ⊢
  go_enter Try.func70, Try.ntmps70
  go_wp2_with (first
    | (go_at_call 76; refine (useSet_calls _ _).mono ?_; rintro e w' ⟨rfl, hw⟩; rw [hw, h8z])
    | (go_at_call 77; refine hM.mono ?_; rintro e w' ⟨rfl, hw⟩; rw [hw]))
  clear hM hsc
  go_loopg [8] s.size (fun g s8 wx => ∃ i : Nat, i + g = s.size ∧ s8 = .int .i64 i ∧ wx = ((w.alloc (.cells (Lib.setCells cl) 91)).alloc (.cells (Lib.setCells cl) 91)) ∧ NoBad s i)
  case atStart => exact ⟨0, by omega, rfl, rfl, NoBad.zero _⟩
  case round =>
    obtain ⟨i, hig, rfl, rfl, hno⟩ := hrel
    have HN : Aside (NoBad s i) := hno
    clear hno
    cases gk with
    | zero =>
      obtain rfl : i = s.size := by omega
      have hiz : ¬ ((s.size : Int) < (s.size : Int)) := by omega
      go_wp2
      go_ret
      exact ⟨⟨_, rfl, by rw [HN.out.all]; rfl⟩, ((Below.refl _ _).alloc (Nat.le_refl _) _).alloc (by simp) _⟩
    | succ g =>
      have hi : i < s.size := by omega
      have hiz : (i : Int) < (s.size : Int) := by omega
      obtain ⟨x, hx⟩ : ∃ x : UInt8, s[i]'hi = x := ⟨_, rfl⟩
      have hcx := HC.out x
      have hcon : cl.contains x = (x == 47 || x == 0) := by
        rw [← HCL.out]
        show ([47, 0] : List UInt8).contains x = (x == 47 || x == 0)
        simp only [List.contains_cons, List.contains_nil, Bool.or_false]
      cases hin : cl.contains x <;> rw [hin] at hcx
      · rw [hin] at hcon
        have hn : x ≠ 47 ∧ x ≠ 0 := by simpa using hcon.symm
        clear hcon
        go_wp2_with (go_at_call 78; refine (contains_calls _ x _ _ hcx).mono ?_; rintro e w' ⟨rfl, hw⟩; rw [hw])
        go_roundg g
        case measure => omega
        case rel => exact ⟨i + 1, by omega, by first | rfl | simp, rfl, HN.out.succ hi (by rw [hx]; exact hn.1) (by rw [hx]; exact hn.2)⟩
      · rw [hin] at hcon
        have hn : x = 47 ∨ x = 0 := by simpa using hcon.symm
        have hbad := hasBad_at hi (by rw [hx]; exact hn)
        clear hcon
        go_wp2_with (go_at_call 78; refine (contains_calls _ x _ _ hcx).mono ?_; rintro e w' ⟨rfl, hw⟩; rw [hw])
        go_ret
        exact ⟨⟨_, rfl, by rw [hbad]; exact decide_eq_true (by omega)⟩, ((Below.refl _ _).alloc (Nat.le_refl _) _).alloc (by simp) _⟩

theorem containsAny_calls (s : ByteArray) (w : World) (hs : s.size ≤ 281474976710656) : Calls Try.prog 58 #[.string s, .string two2] w fun e w' => e = .returned (.bool (hasBad s.data.toList)) ∧ Below w.heap.size w w' := by
  have hA : Calls Try.prog 70 #[.string s, .string two2] w fun e w' => (∃ i : Int, e = .returned (.int .i64 i) ∧ decide (0 ≤ i) = hasBad s.data.toList) ∧ Below w.heap.size w w' := by
    by_cases h8 : s.size ≤ 8
    · exact any_short s w h8
    · exact any_long s w (by omega) hs
  unfold two2 at hA ⊢
  go_enter Try.func58, Try.ntmps58
  go_wp2_with (go_at_call 70; (with_reducible refine hA.mono ?_); rintro e w' ⟨⟨i, rfl, hi⟩, hw⟩)
  go_ret
  exact ⟨by rw [← hi]; rfl, hw⟩

def names_Right.f (a0 : ByteArray) : Option Int :=
  if a0.size ≤ 281474976710656 then some (if a0.toList = [] then 2 else if hasBad a0.data.toList = true ∨ a0.toList = [46] ∨ a0.toList = [46, 46] then 22 else if 24 < (a0.size : Int) then 36 else 0) else none
set_option maxHeartbeats 8000000 in
set_option maxRecDepth 1000000 in
theorem names_Right.calls (a0 : ByteArray) (r : Int) (w : World) (h : names_Right.f a0 = some r) : Calls Try.prog 31 #[.string a0] w fun e w' => e = .returned (.int .i64 r) ∧ Below w.heap.size w w' := by
  unfold names_Right.f at h
  split at h
  · rename_i hs
    cases h
    have hA := fun w => containsAny_calls a0 w hs
    unfold two2 at hA
    by_cases h0 : a0.toList = []
    · rw [if_pos h0]
      go_enter Try.func31, Try.ntmps31
      go_wp2
      go_ret
      exact ⟨rfl, Below.refl _ _⟩
    · rw [if_neg h0]
      have hemp : a0.toList.isEmpty = false := by simpa using h0
      cases hb : hasBad a0.data.toList with
      | true =>
        rw [if_pos (.inl rfl)]
        go_enter Try.func31, Try.ntmps31
        go_wp2_with (go_at_call 58; (with_reducible refine (hA _).mono ?_); rintro e w' ⟨rfl, hw⟩; rw [hb])
        go_ret
        exact ⟨rfl, hw⟩
      | false =>
        by_cases h1 : a0.toList = [46]
        · rw [if_pos (.inr (.inl h1))]
          go_enter Try.func31, Try.ntmps31
          go_wp2_with (go_at_call 58; (with_reducible refine (hA _).mono ?_); rintro e w' ⟨rfl, hw⟩; rw [hb])
          go_ret
          exact ⟨rfl, hw⟩
        · have e1 : (a0.toList == [46]) = false := beq_eq_false_iff_ne.2 h1
          by_cases h2 : a0.toList = [46, 46]
          · rw [if_pos (.inr (.inr h2))]
            go_enter Try.func31, Try.ntmps31
            go_wp2_with (go_at_call 58; (with_reducible refine (hA _).mono ?_); rintro e w' ⟨rfl, hw⟩; rw [hb])
            go_ret
            exact ⟨rfl, hw⟩
          · rw [if_neg (by simp [h1, h2])]
            have e2 : (a0.toList == [46, 46]) = false := beq_eq_false_iff_ne.2 h2
            by_cases h3 : 24 < (a0.size : Int)
            · rw [if_pos h3]
              go_enter Try.func31, Try.ntmps31
              go_wp2_with (go_at_call 58; (with_reducible refine (hA _).mono ?_); rintro e w' ⟨rfl, hw⟩; rw [hb])
              go_ret
              exact ⟨rfl, hw⟩
            · rw [if_neg h3]
              go_enter Try.func31, Try.ntmps31
              go_wp2_with (go_at_call 58; (with_reducible refine (hA _).mono ?_); rintro e w' ⟨rfl, hw⟩; rw [hb])
              go_ret
              exact ⟨rfl, hw⟩
  · cases h
end Go.Proofs.Ytakchpeohmkpkaa.Q

namespace Go.Proofs.Ytakchpeohmkpkaa.Q
open Go.RowKit Go.Proofs.YtakchpeohmkpkaaW.PrintWords Go.Proofs.YtakchpeohmkpkaaW.PrintLast Go.Proofs.YtakchpeohmkpkaaW.PrintMore
set_option linter.unusedVariables false
set_option linter.unusedSimpArgs false
/-- The number of two bytes, the higher one first. -/
def num2 (s : ByteArray) : Int := bt s 0 * 256 + bt s 1
def goodInoB (a : Int) : Bool := decide (1 ≤ a) && decide (a ≤ 4096)
def goodBlockB (a : Int) : Bool := decide (0 ≤ a) && decide (a < 128)
theorem or_i64 (h l : Int) (hh : 0 ≤ h ∧ h < 256) (hl : 0 ≤ l ∧ l < 256) : Go.bits .or .i64 (h * 256) l = h * 256 + l := by
  obtain ⟨h, rfl⟩ := Int.eq_ofNat_of_zero_le hh.1
  obtain ⟨l, rfl⟩ := Int.eq_ofNat_of_zero_le hl.1
  have hor : (h * 256) ||| l = h * 256 + l := by
    have := Nat.two_pow_add_eq_or_of_lt (i := 8) (b := l) (by omega) h
    simp only [Nat.reducePow] at this
    rw [Nat.mul_comm h 256]
    omega
  have hx : (h * 256) ||| l < 65536 := by rw [hor]; omega
  have h1 : (BitVec.ofInt 64 ((h : Int) * 256)).toNat = h * 256 := by
    rw [show ((h : Int) * 256) = ((h * 256 : Nat) : Int) from by simp, BitVec.ofInt_natCast, BitVec.toNat_ofNat]; exact Nat.mod_eq_of_lt (by omega)
  have h2 : (BitVec.ofInt 64 (l : Int)).toNat = l := by
    rw [BitVec.ofInt_natCast, BitVec.toNat_ofNat]; exact Nat.mod_eq_of_lt (by omega)
  show IntKind.i64.wrap ((BitVec.ofInt 64 ((h : Int) * 256) ||| BitVec.ofInt 64 (l : Int)).toNat : Int) = _
  rw [BitVec.toNat_or, h1, h2, hor, IntKind.wrap_i64]
  omega
theorem num_f (s : ByteArray) (h : 2 ≤ s.size) : node_number.f s = some (num2 s) := by
  unfold node_number.f num2
  rw [if_pos (by omega), if_pos (by omega)]
  have r0 := bt_range s 0
  have r1 := bt_range s 1
  rw [show wrap64 (bt s 0) = bt s 0 from by unfold wrap64; omega, show wrap64 (bt s 0 * 256) = bt s 0 * 256 from by unfold wrap64; omega, show wrap64 (bt s 1) = bt s 1 from by unfold wrap64; omega, or_i64 _ _ (by omega) (by omega)]
theorem num_calls (s : ByteArray) (w : World) (h : 2 ≤ s.size) : Calls Try.prog 55 #[.string s] w fun e w' => e = .returned (.int .i64 (num2 s)) ∧ Drawn0 w w' := node_number.calls s _ w (num_f s h)
theorem good_calls (a : Int) (w : World) : Calls Try.prog 56 #[.int .i64 a] w fun e w' => e = .returned (.bool (goodInoB a)) ∧ Drawn0 w w' := by
  refine node_goodIno.calls a _ w ?_
  unfold node_goodIno.f goodInoB
  by_cases h : a ≥ 1 <;> simp [h] <;> omega
theorem blk_calls (a : Int) (w : World) : Calls Try.prog 57 #[.int .i64 a] w fun e w' => e = .returned (.bool (goodBlockB a)) ∧ Drawn0 w w' := by
  refine node_goodBlock.calls a _ w ?_
  unfold node_goodBlock.f goodBlockB
  by_cases h : a ≥ 0 <;> simp [h] <;> omega
set_option maxHeartbeats 8000000 in
set_option maxRecDepth 100000 in
theorem kind_s (s : ByteArray) (w : World) (h3 : s.size < 3) : Calls Try.prog 30 #[.string s] w fun e w' => e = .returned (.tuple #[.int .i64 0, .int .i64 0, .string ⟨#[]⟩, .int .i64 0]) ∧ Below w.heap.size w w' := by
  have a1 : decide ((s.size : Int) < 3) = true := decide_eq_true (by omega)
  have a2 : decide (s.size < 3) = true := decide_eq_true (by omega)
  go_enter Try.func30, Try.ntmps30
  go_wp2
  refine bodyPost_ret (results_list (rs := [.tmp 2, .tmp 3, .tmp 4, .tmp 5]) rfl (by simp) (.tmp (.tmp (.tmp (.tmp .nil))))) rfl ?_
  exact ⟨rfl, Below.refl _ _⟩
set_option maxHeartbeats 8000000 in
set_option maxRecDepth 100000 in
theorem kind_o1 (s rest pre : ByteArray) (e : Int) (w : World) (h3 : 3 ≤ s.size) (hrest : s.extract 3 s.size = rest) (hpre : s.extract 0 3 = pre) (hr2 : 2 ≤ rest.size)
    (f0 : (num2 s == 0) = true) (f1 : (num2 s != 0) = false) (f2 : (pre.toList == ([0, 0, 4] : List UInt8)) = true) (f3 : (pre.toList != ([0, 0, 4] : List UInt8)) = false) (f4 : ((rest.size : Int) == 2) = true) (f5 : ((rest.size : Int) != 2) = false) (f6 : (rest.size == 2) = true) (f7 : (rest.size != 2) = false) (f8 : goodInoB (num2 rest) = true) : Calls Try.prog 30 #[.string s] w fun e w' => e = .returned (.tuple #[.int .i64 4, .int .i64 (num2 rest), .string ⟨#[]⟩, .int .i64 0]) ∧ Below w.heap.size w w' := by
  have h2 : 2 ≤ s.size := by omega
  have a1 : decide ((s.size : Int) < 3) = false := decide_eq_false (by omega)
  have a2 : decide (s.size < 3) = false := decide_eq_false (by omega)
  have b0 : (3 ≤ (s.size : Int)) = True := eq_true (by omega)
  have b1 : decide (3 ≤ (s.size : Int)) = true := decide_eq_true (by omega)
  have b2 : (2 < s.size) = True := eq_true (by omega)
  have b3 : (2 < (s.size : Int)) = True := eq_true (by omega)
  have hx : ∀ h : 2 < s.size, ((s[2]'h).toNat : Int) = bt s 2 := bt_at s 2
  obtain ⟨r0, r1⟩ := bt_range s 2
  go_enter Try.func30, Try.ntmps30
  go_wp2_with (first
    | (go_at_call 55; (with_reducible refine (num_calls _ _ (by assumption)).mono ?_); rintro e w' ⟨rfl, ⟨nd, rfl⟩⟩)
    | (go_at_call 56; (with_reducible refine (good_calls _ _).mono ?_); rintro e w' ⟨rfl, ⟨nd, rfl⟩⟩)
    | (go_at_call 57; (with_reducible refine (blk_calls _ _).mono ?_); rintro e w' ⟨rfl, ⟨nd, rfl⟩⟩)
    | (go_at_call 31; (with_reducible refine (names_Right.calls rest e _ HE.out).mono ?_); rintro e w1 ⟨rfl, hb1⟩))
  go_quiet ((go_at_call 55; exact Calls.quiet_of ((num_calls _ _ (by assumption)).mono fun _ _ ⟨he_, hd_⟩ => ⟨he_, hd_.out⟩)))
  go_wp2_with (first
    | (go_at_call 55; (with_reducible refine (num_calls _ _ (by assumption)).mono ?_); rintro e w' ⟨rfl, ⟨nd, rfl⟩⟩)
    | (go_at_call 56; (with_reducible refine (good_calls _ _).mono ?_); rintro e w' ⟨rfl, ⟨nd, rfl⟩⟩)
    | (go_at_call 57; (with_reducible refine (blk_calls _ _).mono ?_); rintro e w' ⟨rfl, ⟨nd, rfl⟩⟩)
    | (go_at_call 31; (with_reducible refine (names_Right.calls rest e _ HE.out).mono ?_); rintro e w1 ⟨rfl, hb1⟩))
  refine bodyPost_ret (results_list (rs := [.tmp 2, .tmp 3, .tmp 4, .tmp 5]) rfl (by simp) (.tmp (.tmp (.tmp (.tmp .nil))))) rfl ?_
  exact ⟨rfl, by repeat (first | exact Below.refl _ _ | apply pw_below_drewN | apply below_drew1)⟩
set_option maxHeartbeats 8000000 in
set_option maxRecDepth 100000 in
theorem kind_o2 (s rest pre : ByteArray) (e : Int) (w : World) (h3 : 3 ≤ s.size) (hrest : s.extract 3 s.size = rest) (hpre : s.extract 0 3 = pre) (hr2 : 2 ≤ rest.size)
    (f0 : (num2 s == 0) = true) (f1 : (num2 s != 0) = false) (f2 : goodInoB (num2 s) = false) (f3 : (pre.toList == ([0, 0, 4] : List UInt8)) = true) (f4 : (pre.toList != ([0, 0, 4] : List UInt8)) = false) (f5 : ((rest.size : Int) == 2) = true) (f6 : ((rest.size : Int) != 2) = false) (f7 : (rest.size == 2) = true) (f8 : (rest.size != 2) = false) (f9 : goodInoB (num2 rest) = false) : Calls Try.prog 30 #[.string s] w fun e w' => e = .returned (.tuple #[.int .i64 0, .int .i64 0, .string ⟨#[]⟩, .int .i64 0]) ∧ Below w.heap.size w w' := by
  have h2 : 2 ≤ s.size := by omega
  have a1 : decide ((s.size : Int) < 3) = false := decide_eq_false (by omega)
  have a2 : decide (s.size < 3) = false := decide_eq_false (by omega)
  have b0 : (3 ≤ (s.size : Int)) = True := eq_true (by omega)
  have b1 : decide (3 ≤ (s.size : Int)) = true := decide_eq_true (by omega)
  have b2 : (2 < s.size) = True := eq_true (by omega)
  have b3 : (2 < (s.size : Int)) = True := eq_true (by omega)
  have hx : ∀ h : 2 < s.size, ((s[2]'h).toNat : Int) = bt s 2 := bt_at s 2
  obtain ⟨r0, r1⟩ := bt_range s 2
  go_enter Try.func30, Try.ntmps30
  go_wp2_with (first
    | (go_at_call 55; (with_reducible refine (num_calls _ _ (by assumption)).mono ?_); rintro e w' ⟨rfl, ⟨nd, rfl⟩⟩)
    | (go_at_call 56; (with_reducible refine (good_calls _ _).mono ?_); rintro e w' ⟨rfl, ⟨nd, rfl⟩⟩)
    | (go_at_call 57; (with_reducible refine (blk_calls _ _).mono ?_); rintro e w' ⟨rfl, ⟨nd, rfl⟩⟩)
    | (go_at_call 31; (with_reducible refine (names_Right.calls rest e _ HE.out).mono ?_); rintro e w1 ⟨rfl, hb1⟩))
  go_quiet ((go_at_call 55; exact Calls.quiet_of ((num_calls _ _ (by assumption)).mono fun _ _ ⟨he_, hd_⟩ => ⟨he_, hd_.out⟩)))
  go_wp2_with (first
    | (go_at_call 55; (with_reducible refine (num_calls _ _ (by assumption)).mono ?_); rintro e w' ⟨rfl, ⟨nd, rfl⟩⟩)
    | (go_at_call 56; (with_reducible refine (good_calls _ _).mono ?_); rintro e w' ⟨rfl, ⟨nd, rfl⟩⟩)
    | (go_at_call 57; (with_reducible refine (blk_calls _ _).mono ?_); rintro e w' ⟨rfl, ⟨nd, rfl⟩⟩)
    | (go_at_call 31; (with_reducible refine (names_Right.calls rest e _ HE.out).mono ?_); rintro e w1 ⟨rfl, hb1⟩))
  refine bodyPost_ret (results_list (rs := [.tmp 2, .tmp 3, .tmp 4, .tmp 5]) rfl (by simp) (.tmp (.tmp (.tmp (.tmp .nil))))) rfl ?_
  exact ⟨rfl, by repeat (first | exact Below.refl _ _ | apply pw_below_drewN | apply below_drew1)⟩
set_option maxHeartbeats 8000000 in
set_option maxRecDepth 100000 in
theorem kind_o3 (s rest pre : ByteArray) (e : Int) (w : World) (h3 : 3 ≤ s.size) (hrest : s.extract 3 s.size = rest) (hpre : s.extract 0 3 = pre)
    (f0 : (num2 s == 0) = true) (f1 : (num2 s != 0) = false) (f2 : goodInoB (num2 s) = false) (f3 : (pre.toList == ([0, 0, 4] : List UInt8)) = true) (f4 : (pre.toList != ([0, 0, 4] : List UInt8)) = false) (f5 : ((rest.size : Int) == 2) = false) (f6 : ((rest.size : Int) != 2) = true) (f7 : (rest.size == 2) = false) (f8 : (rest.size != 2) = true) : Calls Try.prog 30 #[.string s] w fun e w' => e = .returned (.tuple #[.int .i64 0, .int .i64 0, .string ⟨#[]⟩, .int .i64 0]) ∧ Below w.heap.size w w' := by
  have h2 : 2 ≤ s.size := by omega
  have a1 : decide ((s.size : Int) < 3) = false := decide_eq_false (by omega)
  have a2 : decide (s.size < 3) = false := decide_eq_false (by omega)
  have b0 : (3 ≤ (s.size : Int)) = True := eq_true (by omega)
  have b1 : decide (3 ≤ (s.size : Int)) = true := decide_eq_true (by omega)
  have b2 : (2 < s.size) = True := eq_true (by omega)
  have b3 : (2 < (s.size : Int)) = True := eq_true (by omega)
  have hx : ∀ h : 2 < s.size, ((s[2]'h).toNat : Int) = bt s 2 := bt_at s 2
  obtain ⟨r0, r1⟩ := bt_range s 2
  go_enter Try.func30, Try.ntmps30
  go_wp2_with (first
    | (go_at_call 55; (with_reducible refine (num_calls _ _ (by assumption)).mono ?_); rintro e w' ⟨rfl, ⟨nd, rfl⟩⟩)
    | (go_at_call 56; (with_reducible refine (good_calls _ _).mono ?_); rintro e w' ⟨rfl, ⟨nd, rfl⟩⟩)
    | (go_at_call 57; (with_reducible refine (blk_calls _ _).mono ?_); rintro e w' ⟨rfl, ⟨nd, rfl⟩⟩)
    | (go_at_call 31; (with_reducible refine (names_Right.calls rest e _ HE.out).mono ?_); rintro e w1 ⟨rfl, hb1⟩))
  go_quiet ((go_at_call 55; exact Calls.quiet_of ((num_calls _ _ (by assumption)).mono fun _ _ ⟨he_, hd_⟩ => ⟨he_, hd_.out⟩)))
  go_wp2_with (first
    | (go_at_call 55; (with_reducible refine (num_calls _ _ (by assumption)).mono ?_); rintro e w' ⟨rfl, ⟨nd, rfl⟩⟩)
    | (go_at_call 56; (with_reducible refine (good_calls _ _).mono ?_); rintro e w' ⟨rfl, ⟨nd, rfl⟩⟩)
    | (go_at_call 57; (with_reducible refine (blk_calls _ _).mono ?_); rintro e w' ⟨rfl, ⟨nd, rfl⟩⟩)
    | (go_at_call 31; (with_reducible refine (names_Right.calls rest e _ HE.out).mono ?_); rintro e w1 ⟨rfl, hb1⟩))
  refine bodyPost_ret (results_list (rs := [.tmp 2, .tmp 3, .tmp 4, .tmp 5]) rfl (by simp) (.tmp (.tmp (.tmp (.tmp .nil))))) rfl ?_
  exact ⟨rfl, by repeat (first | exact Below.refl _ _ | apply pw_below_drewN | apply below_drew1)⟩
set_option maxHeartbeats 8000000 in
set_option maxRecDepth 100000 in
theorem kind_o4 (s rest pre : ByteArray) (e : Int) (w : World) (h3 : 3 ≤ s.size) (hrest : s.extract 3 s.size = rest) (hpre : s.extract 0 3 = pre)
    (f0 : (num2 s == 0) = true) (f1 : (num2 s != 0) = false) (f2 : goodInoB (num2 s) = false) (f3 : (pre.toList == ([0, 0, 4] : List UInt8)) = false) (f4 : (pre.toList != ([0, 0, 4] : List UInt8)) = true) : Calls Try.prog 30 #[.string s] w fun e w' => e = .returned (.tuple #[.int .i64 0, .int .i64 0, .string ⟨#[]⟩, .int .i64 0]) ∧ Below w.heap.size w w' := by
  have h2 : 2 ≤ s.size := by omega
  have a1 : decide ((s.size : Int) < 3) = false := decide_eq_false (by omega)
  have a2 : decide (s.size < 3) = false := decide_eq_false (by omega)
  have b0 : (3 ≤ (s.size : Int)) = True := eq_true (by omega)
  have b1 : decide (3 ≤ (s.size : Int)) = true := decide_eq_true (by omega)
  have b2 : (2 < s.size) = True := eq_true (by omega)
  have b3 : (2 < (s.size : Int)) = True := eq_true (by omega)
  have hx : ∀ h : 2 < s.size, ((s[2]'h).toNat : Int) = bt s 2 := bt_at s 2
  obtain ⟨r0, r1⟩ := bt_range s 2
  go_enter Try.func30, Try.ntmps30
  go_wp2_with (first
    | (go_at_call 55; (with_reducible refine (num_calls _ _ (by assumption)).mono ?_); rintro e w' ⟨rfl, ⟨nd, rfl⟩⟩)
    | (go_at_call 56; (with_reducible refine (good_calls _ _).mono ?_); rintro e w' ⟨rfl, ⟨nd, rfl⟩⟩)
    | (go_at_call 57; (with_reducible refine (blk_calls _ _).mono ?_); rintro e w' ⟨rfl, ⟨nd, rfl⟩⟩)
    | (go_at_call 31; (with_reducible refine (names_Right.calls rest e _ HE.out).mono ?_); rintro e w1 ⟨rfl, hb1⟩))
  go_quiet ((go_at_call 55; exact Calls.quiet_of ((num_calls _ _ (by assumption)).mono fun _ _ ⟨he_, hd_⟩ => ⟨he_, hd_.out⟩)))
  go_wp2_with (first
    | (go_at_call 55; (with_reducible refine (num_calls _ _ (by assumption)).mono ?_); rintro e w' ⟨rfl, ⟨nd, rfl⟩⟩)
    | (go_at_call 56; (with_reducible refine (good_calls _ _).mono ?_); rintro e w' ⟨rfl, ⟨nd, rfl⟩⟩)
    | (go_at_call 57; (with_reducible refine (blk_calls _ _).mono ?_); rintro e w' ⟨rfl, ⟨nd, rfl⟩⟩)
    | (go_at_call 31; (with_reducible refine (names_Right.calls rest e _ HE.out).mono ?_); rintro e w1 ⟨rfl, hb1⟩))
  refine bodyPost_ret (results_list (rs := [.tmp 2, .tmp 3, .tmp 4, .tmp 5]) rfl (by simp) (.tmp (.tmp (.tmp (.tmp .nil))))) rfl ?_
  exact ⟨rfl, by repeat (first | exact Below.refl _ _ | apply pw_below_drewN | apply below_drew1)⟩
set_option maxHeartbeats 8000000 in
set_option maxRecDepth 100000 in
theorem kind_b1 (s rest pre : ByteArray) (e : Int) (w : World) (h3 : 3 ≤ s.size) (hrest : s.extract 3 s.size = rest) (hpre : s.extract 0 3 = pre)
    (f0 : (num2 s == 0) = false) (f1 : (num2 s != 0) = true) (f2 : goodInoB (num2 s) = false) : Calls Try.prog 30 #[.string s] w fun e w' => e = .returned (.tuple #[.int .i64 0, .int .i64 0, .string ⟨#[]⟩, .int .i64 0]) ∧ Below w.heap.size w w' := by
  have h2 : 2 ≤ s.size := by omega
  have a1 : decide ((s.size : Int) < 3) = false := decide_eq_false (by omega)
  have a2 : decide (s.size < 3) = false := decide_eq_false (by omega)
  have b0 : (3 ≤ (s.size : Int)) = True := eq_true (by omega)
  have b1 : decide (3 ≤ (s.size : Int)) = true := decide_eq_true (by omega)
  have b2 : (2 < s.size) = True := eq_true (by omega)
  have b3 : (2 < (s.size : Int)) = True := eq_true (by omega)
  have hx : ∀ h : 2 < s.size, ((s[2]'h).toNat : Int) = bt s 2 := bt_at s 2
  obtain ⟨r0, r1⟩ := bt_range s 2
  go_enter Try.func30, Try.ntmps30
  go_wp2_with (first
    | (go_at_call 55; (with_reducible refine (num_calls _ _ (by assumption)).mono ?_); rintro e w' ⟨rfl, ⟨nd, rfl⟩⟩)
    | (go_at_call 56; (with_reducible refine (good_calls _ _).mono ?_); rintro e w' ⟨rfl, ⟨nd, rfl⟩⟩)
    | (go_at_call 57; (with_reducible refine (blk_calls _ _).mono ?_); rintro e w' ⟨rfl, ⟨nd, rfl⟩⟩)
    | (go_at_call 31; (with_reducible refine (names_Right.calls rest e _ HE.out).mono ?_); rintro e w1 ⟨rfl, hb1⟩))
  go_quiet ((go_at_call 55; exact Calls.quiet_of ((num_calls _ _ (by assumption)).mono fun _ _ ⟨he_, hd_⟩ => ⟨he_, hd_.out⟩)))
  go_wp2_with (first
    | (go_at_call 55; (with_reducible refine (num_calls _ _ (by assumption)).mono ?_); rintro e w' ⟨rfl, ⟨nd, rfl⟩⟩)
    | (go_at_call 56; (with_reducible refine (good_calls _ _).mono ?_); rintro e w' ⟨rfl, ⟨nd, rfl⟩⟩)
    | (go_at_call 57; (with_reducible refine (blk_calls _ _).mono ?_); rintro e w' ⟨rfl, ⟨nd, rfl⟩⟩)
    | (go_at_call 31; (with_reducible refine (names_Right.calls rest e _ HE.out).mono ?_); rintro e w1 ⟨rfl, hb1⟩))
  refine bodyPost_ret (results_list (rs := [.tmp 2, .tmp 3, .tmp 4, .tmp 5]) rfl (by simp) (.tmp (.tmp (.tmp (.tmp .nil))))) rfl ?_
  exact ⟨rfl, by repeat (first | exact Below.refl _ _ | apply pw_below_drewN | apply below_drew1)⟩
set_option maxHeartbeats 8000000 in
set_option maxRecDepth 100000 in
theorem kind_i1 (s rest pre : ByteArray) (e : Int) (w : World) (h3 : 3 ≤ s.size) (hrest : s.extract 3 s.size = rest) (hpre : s.extract 0 3 = pre)
    (f0 : (num2 s == 0) = false) (f1 : (num2 s != 0) = true) (f2 : goodInoB (num2 s) = true) (f3 : (bt s 2 == 1) = true) (f4 : (bt s 2 != 1) = false) (f5 : (rest.toList == ([] : List UInt8)) = true) (f6 : (rest.toList != ([] : List UInt8)) = false) (f7 : rest.toList.isEmpty = true) (f8 : (!rest.toList.isEmpty) = false) : Calls Try.prog 30 #[.string s] w fun e w' => e = .returned (.tuple #[.int .i64 1, .int .i64 (num2 s), .string ⟨#[]⟩, .int .i64 0]) ∧ Below w.heap.size w w' := by
  have h2 : 2 ≤ s.size := by omega
  have a1 : decide ((s.size : Int) < 3) = false := decide_eq_false (by omega)
  have a2 : decide (s.size < 3) = false := decide_eq_false (by omega)
  have b0 : (3 ≤ (s.size : Int)) = True := eq_true (by omega)
  have b1 : decide (3 ≤ (s.size : Int)) = true := decide_eq_true (by omega)
  have b2 : (2 < s.size) = True := eq_true (by omega)
  have b3 : (2 < (s.size : Int)) = True := eq_true (by omega)
  have hx : ∀ h : 2 < s.size, ((s[2]'h).toNat : Int) = bt s 2 := bt_at s 2
  obtain ⟨r0, r1⟩ := bt_range s 2
  go_enter Try.func30, Try.ntmps30
  go_wp2_with (first
    | (go_at_call 55; (with_reducible refine (num_calls _ _ (by assumption)).mono ?_); rintro e w' ⟨rfl, ⟨nd, rfl⟩⟩)
    | (go_at_call 56; (with_reducible refine (good_calls _ _).mono ?_); rintro e w' ⟨rfl, ⟨nd, rfl⟩⟩)
    | (go_at_call 57; (with_reducible refine (blk_calls _ _).mono ?_); rintro e w' ⟨rfl, ⟨nd, rfl⟩⟩)
    | (go_at_call 31; (with_reducible refine (names_Right.calls rest e _ HE.out).mono ?_); rintro e w1 ⟨rfl, hb1⟩))
  go_quiet ((go_at_call 55; exact Calls.quiet_of ((num_calls _ _ (by assumption)).mono fun _ _ ⟨he_, hd_⟩ => ⟨he_, hd_.out⟩)))
  go_wp2_with (first
    | (go_at_call 55; (with_reducible refine (num_calls _ _ (by assumption)).mono ?_); rintro e w' ⟨rfl, ⟨nd, rfl⟩⟩)
    | (go_at_call 56; (with_reducible refine (good_calls _ _).mono ?_); rintro e w' ⟨rfl, ⟨nd, rfl⟩⟩)
    | (go_at_call 57; (with_reducible refine (blk_calls _ _).mono ?_); rintro e w' ⟨rfl, ⟨nd, rfl⟩⟩)
    | (go_at_call 31; (with_reducible refine (names_Right.calls rest e _ HE.out).mono ?_); rintro e w1 ⟨rfl, hb1⟩))
  refine bodyPost_ret (results_list (rs := [.tmp 2, .tmp 3, .tmp 4, .tmp 5]) rfl (by simp) (.tmp (.tmp (.tmp (.tmp .nil))))) rfl ?_
  exact ⟨rfl, by repeat (first | exact Below.refl _ _ | apply pw_below_drewN | apply below_drew1)⟩
set_option maxHeartbeats 8000000 in
set_option maxRecDepth 100000 in
theorem kind_i2 (s rest pre : ByteArray) (e : Int) (w : World) (h3 : 3 ≤ s.size) (hrest : s.extract 3 s.size = rest) (hpre : s.extract 0 3 = pre)
    (f0 : (num2 s == 0) = false) (f1 : (num2 s != 0) = true) (f2 : goodInoB (num2 s) = true) (f3 : (bt s 2 == 1) = true) (f4 : (bt s 2 != 1) = false) (f5 : (bt s 2 == 2) = false) (f6 : (bt s 2 != 2) = true) (f7 : (bt s 2 == 3) = false) (f8 : (bt s 2 != 3) = true) (f9 : (rest.toList == ([] : List UInt8)) = false) (f10 : (rest.toList != ([] : List UInt8)) = true) (f11 : rest.toList.isEmpty = false) (f12 : (!rest.toList.isEmpty) = true) : Calls Try.prog 30 #[.string s] w fun e w' => e = .returned (.tuple #[.int .i64 0, .int .i64 0, .string ⟨#[]⟩, .int .i64 0]) ∧ Below w.heap.size w w' := by
  have h2 : 2 ≤ s.size := by omega
  have a1 : decide ((s.size : Int) < 3) = false := decide_eq_false (by omega)
  have a2 : decide (s.size < 3) = false := decide_eq_false (by omega)
  have b0 : (3 ≤ (s.size : Int)) = True := eq_true (by omega)
  have b1 : decide (3 ≤ (s.size : Int)) = true := decide_eq_true (by omega)
  have b2 : (2 < s.size) = True := eq_true (by omega)
  have b3 : (2 < (s.size : Int)) = True := eq_true (by omega)
  have hx : ∀ h : 2 < s.size, ((s[2]'h).toNat : Int) = bt s 2 := bt_at s 2
  obtain ⟨r0, r1⟩ := bt_range s 2
  go_enter Try.func30, Try.ntmps30
  go_wp2_with (first
    | (go_at_call 55; (with_reducible refine (num_calls _ _ (by assumption)).mono ?_); rintro e w' ⟨rfl, ⟨nd, rfl⟩⟩)
    | (go_at_call 56; (with_reducible refine (good_calls _ _).mono ?_); rintro e w' ⟨rfl, ⟨nd, rfl⟩⟩)
    | (go_at_call 57; (with_reducible refine (blk_calls _ _).mono ?_); rintro e w' ⟨rfl, ⟨nd, rfl⟩⟩)
    | (go_at_call 31; (with_reducible refine (names_Right.calls rest e _ HE.out).mono ?_); rintro e w1 ⟨rfl, hb1⟩))
  go_quiet ((go_at_call 55; exact Calls.quiet_of ((num_calls _ _ (by assumption)).mono fun _ _ ⟨he_, hd_⟩ => ⟨he_, hd_.out⟩)))
  go_wp2_with (first
    | (go_at_call 55; (with_reducible refine (num_calls _ _ (by assumption)).mono ?_); rintro e w' ⟨rfl, ⟨nd, rfl⟩⟩)
    | (go_at_call 56; (with_reducible refine (good_calls _ _).mono ?_); rintro e w' ⟨rfl, ⟨nd, rfl⟩⟩)
    | (go_at_call 57; (with_reducible refine (blk_calls _ _).mono ?_); rintro e w' ⟨rfl, ⟨nd, rfl⟩⟩)
    | (go_at_call 31; (with_reducible refine (names_Right.calls rest e _ HE.out).mono ?_); rintro e w1 ⟨rfl, hb1⟩))
  refine bodyPost_ret (results_list (rs := [.tmp 2, .tmp 3, .tmp 4, .tmp 5]) rfl (by simp) (.tmp (.tmp (.tmp (.tmp .nil))))) rfl ?_
  exact ⟨rfl, by repeat (first | exact Below.refl _ _ | apply pw_below_drewN | apply below_drew1)⟩
set_option maxHeartbeats 8000000 in
set_option maxRecDepth 100000 in
theorem kind_e1 (s rest pre : ByteArray) (e : Int) (w : World) (h3 : 3 ≤ s.size) (hrest : s.extract 3 s.size = rest) (hpre : s.extract 0 3 = pre) (hR : names_Right.f rest = some e)
    (f0 : (num2 s == 0) = false) (f1 : (num2 s != 0) = true) (f2 : goodInoB (num2 s) = true) (f3 : (bt s 2 == 1) = false) (f4 : (bt s 2 != 1) = true) (f5 : (bt s 2 == 2) = true) (f6 : (bt s 2 != 2) = false) (f7 : (e == 0) = true) (f8 : (e != 0) = false) : Calls Try.prog 30 #[.string s] w fun e w' => e = .returned (.tuple #[.int .i64 2, .int .i64 (num2 s), .string rest, .int .i64 0]) ∧ Below w.heap.size w w' := by
  have h2 : 2 ≤ s.size := by omega
  have a1 : decide ((s.size : Int) < 3) = false := decide_eq_false (by omega)
  have a2 : decide (s.size < 3) = false := decide_eq_false (by omega)
  have b0 : (3 ≤ (s.size : Int)) = True := eq_true (by omega)
  have b1 : decide (3 ≤ (s.size : Int)) = true := decide_eq_true (by omega)
  have b2 : (2 < s.size) = True := eq_true (by omega)
  have b3 : (2 < (s.size : Int)) = True := eq_true (by omega)
  have hx : ∀ h : 2 < s.size, ((s[2]'h).toNat : Int) = bt s 2 := bt_at s 2
  obtain ⟨r0, r1⟩ := bt_range s 2
  have HE := Aside0.mk hR
  clear hR
  go_enter Try.func30, Try.ntmps30
  go_wp2_with (first
    | (go_at_call 55; (with_reducible refine (num_calls _ _ (by assumption)).mono ?_); rintro e w' ⟨rfl, ⟨nd, rfl⟩⟩)
    | (go_at_call 56; (with_reducible refine (good_calls _ _).mono ?_); rintro e w' ⟨rfl, ⟨nd, rfl⟩⟩)
    | (go_at_call 57; (with_reducible refine (blk_calls _ _).mono ?_); rintro e w' ⟨rfl, ⟨nd, rfl⟩⟩)
    | (go_at_call 31; (with_reducible refine (names_Right.calls rest e _ HE.out).mono ?_); rintro e w1 ⟨rfl, hb1⟩))
  go_quiet ((go_at_call 55; exact Calls.quiet_of ((num_calls _ _ (by assumption)).mono fun _ _ ⟨he_, hd_⟩ => ⟨he_, hd_.out⟩)))
  go_wp2_with (first
    | (go_at_call 55; (with_reducible refine (num_calls _ _ (by assumption)).mono ?_); rintro e w' ⟨rfl, ⟨nd, rfl⟩⟩)
    | (go_at_call 56; (with_reducible refine (good_calls _ _).mono ?_); rintro e w' ⟨rfl, ⟨nd, rfl⟩⟩)
    | (go_at_call 57; (with_reducible refine (blk_calls _ _).mono ?_); rintro e w' ⟨rfl, ⟨nd, rfl⟩⟩)
    | (go_at_call 31; (with_reducible refine (names_Right.calls rest e _ HE.out).mono ?_); rintro e w1 ⟨rfl, hb1⟩))
  refine bodyPost_ret (results_list (rs := [.tmp 2, .tmp 3, .tmp 4, .tmp 5]) rfl (by simp) (.tmp (.tmp (.tmp (.tmp .nil))))) rfl ?_
  exact ⟨rfl, by repeat (first | exact Below.refl _ _ | exact ⟨hb1.os, hb1.tape, hb1.output, hb1.size, hb1.block⟩ | apply pw_below_drewN | apply below_drew1)⟩
set_option maxHeartbeats 8000000 in
set_option maxRecDepth 100000 in
theorem kind_e2 (s rest pre : ByteArray) (e : Int) (w : World) (h3 : 3 ≤ s.size) (hrest : s.extract 3 s.size = rest) (hpre : s.extract 0 3 = pre) (hR : names_Right.f rest = some e)
    (f0 : (num2 s == 0) = false) (f1 : (num2 s != 0) = true) (f2 : goodInoB (num2 s) = true) (f3 : (bt s 2 == 1) = false) (f4 : (bt s 2 != 1) = true) (f5 : (bt s 2 == 2) = true) (f6 : (bt s 2 != 2) = false) (f7 : (bt s 2 == 3) = false) (f8 : (bt s 2 != 3) = true) (f9 : (e == 0) = false) (f10 : (e != 0) = true) : Calls Try.prog 30 #[.string s] w fun e w' => e = .returned (.tuple #[.int .i64 0, .int .i64 0, .string ⟨#[]⟩, .int .i64 0]) ∧ Below w.heap.size w w' := by
  have h2 : 2 ≤ s.size := by omega
  have a1 : decide ((s.size : Int) < 3) = false := decide_eq_false (by omega)
  have a2 : decide (s.size < 3) = false := decide_eq_false (by omega)
  have b0 : (3 ≤ (s.size : Int)) = True := eq_true (by omega)
  have b1 : decide (3 ≤ (s.size : Int)) = true := decide_eq_true (by omega)
  have b2 : (2 < s.size) = True := eq_true (by omega)
  have b3 : (2 < (s.size : Int)) = True := eq_true (by omega)
  have hx : ∀ h : 2 < s.size, ((s[2]'h).toNat : Int) = bt s 2 := bt_at s 2
  obtain ⟨r0, r1⟩ := bt_range s 2
  have HE := Aside0.mk hR
  clear hR
  go_enter Try.func30, Try.ntmps30
  go_wp2_with (first
    | (go_at_call 55; (with_reducible refine (num_calls _ _ (by assumption)).mono ?_); rintro e w' ⟨rfl, ⟨nd, rfl⟩⟩)
    | (go_at_call 56; (with_reducible refine (good_calls _ _).mono ?_); rintro e w' ⟨rfl, ⟨nd, rfl⟩⟩)
    | (go_at_call 57; (with_reducible refine (blk_calls _ _).mono ?_); rintro e w' ⟨rfl, ⟨nd, rfl⟩⟩)
    | (go_at_call 31; (with_reducible refine (names_Right.calls rest e _ HE.out).mono ?_); rintro e w1 ⟨rfl, hb1⟩))
  go_quiet ((go_at_call 55; exact Calls.quiet_of ((num_calls _ _ (by assumption)).mono fun _ _ ⟨he_, hd_⟩ => ⟨he_, hd_.out⟩)))
  go_wp2_with (first
    | (go_at_call 55; (with_reducible refine (num_calls _ _ (by assumption)).mono ?_); rintro e w' ⟨rfl, ⟨nd, rfl⟩⟩)
    | (go_at_call 56; (with_reducible refine (good_calls _ _).mono ?_); rintro e w' ⟨rfl, ⟨nd, rfl⟩⟩)
    | (go_at_call 57; (with_reducible refine (blk_calls _ _).mono ?_); rintro e w' ⟨rfl, ⟨nd, rfl⟩⟩)
    | (go_at_call 31; (with_reducible refine (names_Right.calls rest e _ HE.out).mono ?_); rintro e w1 ⟨rfl, hb1⟩))
  refine bodyPost_ret (results_list (rs := [.tmp 2, .tmp 3, .tmp 4, .tmp 5]) rfl (by simp) (.tmp (.tmp (.tmp (.tmp .nil))))) rfl ?_
  exact ⟨rfl, by repeat (first | exact Below.refl _ _ | exact ⟨hb1.os, hb1.tape, hb1.output, hb1.size, hb1.block⟩ | apply pw_below_drewN | apply below_drew1)⟩
set_option maxHeartbeats 8000000 in
set_option maxRecDepth 100000 in
theorem kind_k1 (s rest pre : ByteArray) (e : Int) (w : World) (h3 : 3 ≤ s.size) (hrest : s.extract 3 s.size = rest) (hpre : s.extract 0 3 = pre) (hr2 : 2 ≤ rest.size)
    (f0 : (num2 s == 0) = false) (f1 : (num2 s != 0) = true) (f2 : goodInoB (num2 s) = true) (f3 : (bt s 2 == 1) = false) (f4 : (bt s 2 != 1) = true) (f5 : (bt s 2 == 2) = false) (f6 : (bt s 2 != 2) = true) (f7 : (bt s 2 == 3) = true) (f8 : (bt s 2 != 3) = false) (f9 : ((rest.size : Int) == 2) = true) (f10 : ((rest.size : Int) != 2) = false) (f11 : (rest.size == 2) = true) (f12 : (rest.size != 2) = false) (f13 : goodBlockB (num2 rest) = true) : Calls Try.prog 30 #[.string s] w fun e w' => e = .returned (.tuple #[.int .i64 3, .int .i64 (num2 s), .string ⟨#[]⟩, .int .i64 (num2 rest)]) ∧ Below w.heap.size w w' := by
  have h2 : 2 ≤ s.size := by omega
  have a1 : decide ((s.size : Int) < 3) = false := decide_eq_false (by omega)
  have a2 : decide (s.size < 3) = false := decide_eq_false (by omega)
  have b0 : (3 ≤ (s.size : Int)) = True := eq_true (by omega)
  have b1 : decide (3 ≤ (s.size : Int)) = true := decide_eq_true (by omega)
  have b2 : (2 < s.size) = True := eq_true (by omega)
  have b3 : (2 < (s.size : Int)) = True := eq_true (by omega)
  have hx : ∀ h : 2 < s.size, ((s[2]'h).toNat : Int) = bt s 2 := bt_at s 2
  obtain ⟨r0, r1⟩ := bt_range s 2
  go_enter Try.func30, Try.ntmps30
  go_wp2_with (first
    | (go_at_call 55; (with_reducible refine (num_calls _ _ (by assumption)).mono ?_); rintro e w' ⟨rfl, ⟨nd, rfl⟩⟩)
    | (go_at_call 56; (with_reducible refine (good_calls _ _).mono ?_); rintro e w' ⟨rfl, ⟨nd, rfl⟩⟩)
    | (go_at_call 57; (with_reducible refine (blk_calls _ _).mono ?_); rintro e w' ⟨rfl, ⟨nd, rfl⟩⟩)
    | (go_at_call 31; (with_reducible refine (names_Right.calls rest e _ HE.out).mono ?_); rintro e w1 ⟨rfl, hb1⟩))
  go_quiet ((go_at_call 55; exact Calls.quiet_of ((num_calls _ _ (by assumption)).mono fun _ _ ⟨he_, hd_⟩ => ⟨he_, hd_.out⟩)))
  go_wp2_with (first
    | (go_at_call 55; (with_reducible refine (num_calls _ _ (by assumption)).mono ?_); rintro e w' ⟨rfl, ⟨nd, rfl⟩⟩)
    | (go_at_call 56; (with_reducible refine (good_calls _ _).mono ?_); rintro e w' ⟨rfl, ⟨nd, rfl⟩⟩)
    | (go_at_call 57; (with_reducible refine (blk_calls _ _).mono ?_); rintro e w' ⟨rfl, ⟨nd, rfl⟩⟩)
    | (go_at_call 31; (with_reducible refine (names_Right.calls rest e _ HE.out).mono ?_); rintro e w1 ⟨rfl, hb1⟩))
  refine bodyPost_ret (results_list (rs := [.tmp 2, .tmp 3, .tmp 4, .tmp 5]) rfl (by simp) (.tmp (.tmp (.tmp (.tmp .nil))))) rfl ?_
  exact ⟨rfl, by repeat (first | exact Below.refl _ _ | apply pw_below_drewN | apply below_drew1)⟩
set_option maxHeartbeats 8000000 in
set_option maxRecDepth 100000 in
theorem kind_k2 (s rest pre : ByteArray) (e : Int) (w : World) (h3 : 3 ≤ s.size) (hrest : s.extract 3 s.size = rest) (hpre : s.extract 0 3 = pre) (hr2 : 2 ≤ rest.size)
    (f0 : (num2 s == 0) = false) (f1 : (num2 s != 0) = true) (f2 : goodInoB (num2 s) = true) (f3 : (bt s 2 == 1) = false) (f4 : (bt s 2 != 1) = true) (f5 : (bt s 2 == 2) = false) (f6 : (bt s 2 != 2) = true) (f7 : (bt s 2 == 3) = true) (f8 : (bt s 2 != 3) = false) (f9 : ((rest.size : Int) == 2) = true) (f10 : ((rest.size : Int) != 2) = false) (f11 : (rest.size == 2) = true) (f12 : (rest.size != 2) = false) (f13 : goodBlockB (num2 rest) = false) : Calls Try.prog 30 #[.string s] w fun e w' => e = .returned (.tuple #[.int .i64 0, .int .i64 0, .string ⟨#[]⟩, .int .i64 0]) ∧ Below w.heap.size w w' := by
  have h2 : 2 ≤ s.size := by omega
  have a1 : decide ((s.size : Int) < 3) = false := decide_eq_false (by omega)
  have a2 : decide (s.size < 3) = false := decide_eq_false (by omega)
  have b0 : (3 ≤ (s.size : Int)) = True := eq_true (by omega)
  have b1 : decide (3 ≤ (s.size : Int)) = true := decide_eq_true (by omega)
  have b2 : (2 < s.size) = True := eq_true (by omega)
  have b3 : (2 < (s.size : Int)) = True := eq_true (by omega)
  have hx : ∀ h : 2 < s.size, ((s[2]'h).toNat : Int) = bt s 2 := bt_at s 2
  obtain ⟨r0, r1⟩ := bt_range s 2
  go_enter Try.func30, Try.ntmps30
  go_wp2_with (first
    | (go_at_call 55; (with_reducible refine (num_calls _ _ (by assumption)).mono ?_); rintro e w' ⟨rfl, ⟨nd, rfl⟩⟩)
    | (go_at_call 56; (with_reducible refine (good_calls _ _).mono ?_); rintro e w' ⟨rfl, ⟨nd, rfl⟩⟩)
    | (go_at_call 57; (with_reducible refine (blk_calls _ _).mono ?_); rintro e w' ⟨rfl, ⟨nd, rfl⟩⟩)
    | (go_at_call 31; (with_reducible refine (names_Right.calls rest e _ HE.out).mono ?_); rintro e w1 ⟨rfl, hb1⟩))
  go_quiet ((go_at_call 55; exact Calls.quiet_of ((num_calls _ _ (by assumption)).mono fun _ _ ⟨he_, hd_⟩ => ⟨he_, hd_.out⟩)))
  go_wp2_with (first
    | (go_at_call 55; (with_reducible refine (num_calls _ _ (by assumption)).mono ?_); rintro e w' ⟨rfl, ⟨nd, rfl⟩⟩)
    | (go_at_call 56; (with_reducible refine (good_calls _ _).mono ?_); rintro e w' ⟨rfl, ⟨nd, rfl⟩⟩)
    | (go_at_call 57; (with_reducible refine (blk_calls _ _).mono ?_); rintro e w' ⟨rfl, ⟨nd, rfl⟩⟩)
    | (go_at_call 31; (with_reducible refine (names_Right.calls rest e _ HE.out).mono ?_); rintro e w1 ⟨rfl, hb1⟩))
  refine bodyPost_ret (results_list (rs := [.tmp 2, .tmp 3, .tmp 4, .tmp 5]) rfl (by simp) (.tmp (.tmp (.tmp (.tmp .nil))))) rfl ?_
  exact ⟨rfl, by repeat (first | exact Below.refl _ _ | apply pw_below_drewN | apply below_drew1)⟩
set_option maxHeartbeats 8000000 in
set_option maxRecDepth 100000 in
theorem kind_k3 (s rest pre : ByteArray) (e : Int) (w : World) (h3 : 3 ≤ s.size) (hrest : s.extract 3 s.size = rest) (hpre : s.extract 0 3 = pre)
    (f0 : (num2 s == 0) = false) (f1 : (num2 s != 0) = true) (f2 : goodInoB (num2 s) = true) (f3 : (bt s 2 == 1) = false) (f4 : (bt s 2 != 1) = true) (f5 : (bt s 2 == 2) = false) (f6 : (bt s 2 != 2) = true) (f7 : (bt s 2 == 3) = true) (f8 : (bt s 2 != 3) = false) (f9 : ((rest.size : Int) == 2) = false) (f10 : ((rest.size : Int) != 2) = true) (f11 : (rest.size == 2) = false) (f12 : (rest.size != 2) = true) : Calls Try.prog 30 #[.string s] w fun e w' => e = .returned (.tuple #[.int .i64 0, .int .i64 0, .string ⟨#[]⟩, .int .i64 0]) ∧ Below w.heap.size w w' := by
  have h2 : 2 ≤ s.size := by omega
  have a1 : decide ((s.size : Int) < 3) = false := decide_eq_false (by omega)
  have a2 : decide (s.size < 3) = false := decide_eq_false (by omega)
  have b0 : (3 ≤ (s.size : Int)) = True := eq_true (by omega)
  have b1 : decide (3 ≤ (s.size : Int)) = true := decide_eq_true (by omega)
  have b2 : (2 < s.size) = True := eq_true (by omega)
  have b3 : (2 < (s.size : Int)) = True := eq_true (by omega)
  have hx : ∀ h : 2 < s.size, ((s[2]'h).toNat : Int) = bt s 2 := bt_at s 2
  obtain ⟨r0, r1⟩ := bt_range s 2
  go_enter Try.func30, Try.ntmps30
  go_wp2_with (first
    | (go_at_call 55; (with_reducible refine (num_calls _ _ (by assumption)).mono ?_); rintro e w' ⟨rfl, ⟨nd, rfl⟩⟩)
    | (go_at_call 56; (with_reducible refine (good_calls _ _).mono ?_); rintro e w' ⟨rfl, ⟨nd, rfl⟩⟩)
    | (go_at_call 57; (with_reducible refine (blk_calls _ _).mono ?_); rintro e w' ⟨rfl, ⟨nd, rfl⟩⟩)
    | (go_at_call 31; (with_reducible refine (names_Right.calls rest e _ HE.out).mono ?_); rintro e w1 ⟨rfl, hb1⟩))
  go_quiet ((go_at_call 55; exact Calls.quiet_of ((num_calls _ _ (by assumption)).mono fun _ _ ⟨he_, hd_⟩ => ⟨he_, hd_.out⟩)))
  go_wp2_with (first
    | (go_at_call 55; (with_reducible refine (num_calls _ _ (by assumption)).mono ?_); rintro e w' ⟨rfl, ⟨nd, rfl⟩⟩)
    | (go_at_call 56; (with_reducible refine (good_calls _ _).mono ?_); rintro e w' ⟨rfl, ⟨nd, rfl⟩⟩)
    | (go_at_call 57; (with_reducible refine (blk_calls _ _).mono ?_); rintro e w' ⟨rfl, ⟨nd, rfl⟩⟩)
    | (go_at_call 31; (with_reducible refine (names_Right.calls rest e _ HE.out).mono ?_); rintro e w1 ⟨rfl, hb1⟩))
  refine bodyPost_ret (results_list (rs := [.tmp 2, .tmp 3, .tmp 4, .tmp 5]) rfl (by simp) (.tmp (.tmp (.tmp (.tmp .nil))))) rfl ?_
  exact ⟨rfl, by repeat (first | exact Below.refl _ _ | apply pw_below_drewN | apply below_drew1)⟩
set_option maxHeartbeats 8000000 in
set_option maxRecDepth 100000 in
theorem kind_z1 (s rest pre : ByteArray) (e : Int) (w : World) (h3 : 3 ≤ s.size) (hrest : s.extract 3 s.size = rest) (hpre : s.extract 0 3 = pre)
    (f0 : (num2 s == 0) = false) (f1 : (num2 s != 0) = true) (f2 : goodInoB (num2 s) = true) (f3 : (bt s 2 == 1) = false) (f4 : (bt s 2 != 1) = true) (f5 : (bt s 2 == 2) = false) (f6 : (bt s 2 != 2) = true) (f7 : (bt s 2 == 3) = false) (f8 : (bt s 2 != 3) = true) : Calls Try.prog 30 #[.string s] w fun e w' => e = .returned (.tuple #[.int .i64 0, .int .i64 0, .string ⟨#[]⟩, .int .i64 0]) ∧ Below w.heap.size w w' := by
  have h2 : 2 ≤ s.size := by omega
  have a1 : decide ((s.size : Int) < 3) = false := decide_eq_false (by omega)
  have a2 : decide (s.size < 3) = false := decide_eq_false (by omega)
  have b0 : (3 ≤ (s.size : Int)) = True := eq_true (by omega)
  have b1 : decide (3 ≤ (s.size : Int)) = true := decide_eq_true (by omega)
  have b2 : (2 < s.size) = True := eq_true (by omega)
  have b3 : (2 < (s.size : Int)) = True := eq_true (by omega)
  have hx : ∀ h : 2 < s.size, ((s[2]'h).toNat : Int) = bt s 2 := bt_at s 2
  obtain ⟨r0, r1⟩ := bt_range s 2
  go_enter Try.func30, Try.ntmps30
  go_wp2_with (first
    | (go_at_call 55; (with_reducible refine (num_calls _ _ (by assumption)).mono ?_); rintro e w' ⟨rfl, ⟨nd, rfl⟩⟩)
    | (go_at_call 56; (with_reducible refine (good_calls _ _).mono ?_); rintro e w' ⟨rfl, ⟨nd, rfl⟩⟩)
    | (go_at_call 57; (with_reducible refine (blk_calls _ _).mono ?_); rintro e w' ⟨rfl, ⟨nd, rfl⟩⟩)
    | (go_at_call 31; (with_reducible refine (names_Right.calls rest e _ HE.out).mono ?_); rintro e w1 ⟨rfl, hb1⟩))
  go_quiet ((go_at_call 55; exact Calls.quiet_of ((num_calls _ _ (by assumption)).mono fun _ _ ⟨he_, hd_⟩ => ⟨he_, hd_.out⟩)))
  go_wp2_with (first
    | (go_at_call 55; (with_reducible refine (num_calls _ _ (by assumption)).mono ?_); rintro e w' ⟨rfl, ⟨nd, rfl⟩⟩)
    | (go_at_call 56; (with_reducible refine (good_calls _ _).mono ?_); rintro e w' ⟨rfl, ⟨nd, rfl⟩⟩)
    | (go_at_call 57; (with_reducible refine (blk_calls _ _).mono ?_); rintro e w' ⟨rfl, ⟨nd, rfl⟩⟩)
    | (go_at_call 31; (with_reducible refine (names_Right.calls rest e _ HE.out).mono ?_); rintro e w1 ⟨rfl, hb1⟩))
  refine bodyPost_ret (results_list (rs := [.tmp 2, .tmp 3, .tmp 4, .tmp 5]) rfl (by simp) (.tmp (.tmp (.tmp (.tmp .nil))))) rfl ?_
  exact ⟨rfl, by repeat (first | exact Below.refl _ _ | apply pw_below_drewN | apply below_drew1)⟩

/-- What a key is: a kind, a number, a name, a block's number. e: what names.Right says of what stands behind the third byte. -/
def kindK (orph : Bool) (e : Int) (n b : Int) (rest : ByteArray) : Int × Int × ByteArray × Int :=
  if orph && (rest.size == 2) && goodInoB (num2 rest) then (4, num2 rest, ⟨#[]⟩, 0)
  else if goodInoB n = false then (0, 0, ⟨#[]⟩, 0)
  else if b = 1 then (if rest.size = 0 then (1, n, ⟨#[]⟩, 0) else (0, 0, ⟨#[]⟩, 0))
  else if b = 2 then (if e = 0 then (2, n, rest, 0) else (0, 0, ⟨#[]⟩, 0))
  else if b = 3 then (if rest.size = 2 ∧ goodBlockB (num2 rest) = true then (3, n, ⟨#[]⟩, num2 rest) else (0, 0, ⟨#[]⟩, 0))
  else (0, 0, ⟨#[]⟩, 0)
theorem goodInoB_zero : goodInoB 0 = false := by decide
theorem empty_list (s : ByteArray) : (s.toList == ([] : List UInt8)) = decide (s.size = 0) := by
  rw [Lib.toList_data, Bool.eq_iff_iff]
  have : s.data.toList = [] ↔ s.size = 0 := by rw [← List.length_eq_zero_iff, Array.length_toList]; rfl
  simp only [beq_iff_eq, List.isEmpty_iff, decide_eq_true_eq]
  exact this
theorem isEmpty_eq (s : ByteArray) : s.toList.isEmpty = decide (s.size = 0) := by
  rw [Lib.toList_data, Bool.eq_iff_iff]
  have : s.data.toList = [] ↔ s.size = 0 := by rw [← List.length_eq_zero_iff, Array.length_toList]; rfl
  simp only [beq_iff_eq, List.isEmpty_iff, decide_eq_true_eq]
  exact this
def node_Kind.f (s : ByteArray) : Option (Int × Int × ByteArray × Int) :=
  if s.size < 3 then some (0, 0, ⟨#[]⟩, 0) else (names_Right.f (s.extract 3 s.size)).bind fun e => some (kindK ((num2 s == 0) && ((s.extract 0 3).toList == ([0, 0, 4] : List UInt8))) e (num2 s) (bt s 2) (s.extract 3 s.size))
theorem node_Kind.calls (s : ByteArray) (r1 : Int) (r2 : Int) (r3 : ByteArray) (r4 : Int) (w : World) (h : node_Kind.f s = some (r1, r2, r3, r4)) :
    Calls Try.prog 30 #[.string s] w fun e w' => e = .returned (.tuple #[.int .i64 r1, .int .i64 r2, .string r3, .int .i64 r4]) ∧ Below w.heap.size w w' := by
  unfold node_Kind.f at h
  by_cases h3 : s.size < 3
  · rw [if_pos h3] at h
    simp only [Option.some.injEq, Prod.mk.injEq] at h
    obtain ⟨rfl, rfl, rfl, rfl⟩ := h
    exact kind_s s w h3
  rw [if_neg h3] at h
  obtain ⟨e, he, h⟩ := Option.bind_eq_some_iff.mp h
  replace h := Option.some.inj h
  obtain ⟨rest, hrest⟩ : ∃ rest, s.extract 3 s.size = rest := ⟨_, rfl⟩
  obtain ⟨pre, hpre⟩ : ∃ pre, s.extract 0 3 = pre := ⟨_, rfl⟩
  rw [hrest] at he
  simp only [hrest, hpre] at h
  have h3' : 3 ≤ s.size := by omega
  have hB : ∀ (a b : Int), a = b → (a == b) = true ∧ (a != b) = false := fun a b h => by subst h; simp
  have hN : ∀ (a b : Int), ¬ a = b → (a == b) = false ∧ (a != b) = true := fun a b h => by simp [h]
  have hBn : ∀ (a b : Nat), a = b → (a == b) = true ∧ (a != b) = false := fun a b h => by subst h; simp
  have hNn : ∀ (a b : Nat), ¬ a = b → (a == b) = false ∧ (a != b) = true := fun a b h => by simp [h]
  by_cases hn : num2 s = 0
  · have hg : goodInoB (num2 s) = false := by rw [hn]; rfl
    by_cases ho : pre.toList = ([0, 0, 4] : List UInt8)
    · by_cases h2 : rest.size = 2
      · have h2' : (rest.size : Int) = 2 := by omega
        by_cases hg2 : goodInoB (num2 rest) = true
        · simp [kindK, hn, ho, h2, hg2] at h
          obtain ⟨rfl, rfl, rfl, rfl⟩ := h
          exact kind_o1 s rest pre 0 w h3' hrest hpre (by omega) (hB _ _ hn).1 (hB _ _ hn).2 (by simp [ho]) (by simp [ho]) (hB _ _ h2').1 (hB _ _ h2').2 (hBn _ _ h2).1 (hBn _ _ h2).2 hg2
        · replace hg2 : goodInoB (num2 rest) = false := Bool.eq_false_iff.mpr hg2
          simp [kindK, hn, ho, h2, hg2, goodInoB_zero] at h
          obtain ⟨rfl, rfl, rfl, rfl⟩ := h
          exact kind_o2 s rest pre 0 w h3' hrest hpre (by omega) (hB _ _ hn).1 (hB _ _ hn).2 hg (by simp [ho]) (by simp [ho]) (hB _ _ h2').1 (hB _ _ h2').2 (hBn _ _ h2).1 (hBn _ _ h2).2 hg2
      · have h2' : ¬ (rest.size : Int) = 2 := by omega
        simp [kindK, hn, ho, h2, goodInoB_zero] at h
        obtain ⟨rfl, rfl, rfl, rfl⟩ := h
        exact kind_o3 s rest pre 0 w h3' hrest hpre (hB _ _ hn).1 (hB _ _ hn).2 hg (by simp [ho]) (by simp [ho]) (hN _ _ h2').1 (hN _ _ h2').2 (hNn _ _ h2).1 (hNn _ _ h2).2
    · simp [kindK, hn, ho, goodInoB_zero] at h
      obtain ⟨rfl, rfl, rfl, rfl⟩ := h
      exact kind_o4 s rest pre 0 w h3' hrest hpre (hB _ _ hn).1 (hB _ _ hn).2 hg (by simp [ho]) (by simp [ho])
  by_cases hg : goodInoB (num2 s) = true
  rotate_left
  · replace hg : goodInoB (num2 s) = false := Bool.eq_false_iff.mpr hg
    simp [kindK, hn, hg] at h
    obtain ⟨rfl, rfl, rfl, rfl⟩ := h
    exact kind_b1 s rest pre 0 w h3' hrest hpre (hN _ _ hn).1 (hN _ _ hn).2 hg
  · by_cases hb1 : bt s 2 = 1
    · have hb2 : ¬ bt s 2 = 2 := by omega
      have hb3 : ¬ bt s 2 = 3 := by omega
      by_cases hz : rest.size = 0
      · simp only [kindK, hn, hg, hb1, hz] at h
        simp [hn] at h
        obtain ⟨rfl, rfl, rfl, rfl⟩ := h
        exact kind_i1 s rest pre 0 w h3' hrest hpre (hN _ _ hn).1 (hN _ _ hn).2 hg (hB _ _ hb1).1 (hB _ _ hb1).2 (by rw [empty_list]; simp [hz]) (by rw [bne, empty_list]; simp [hz]) (by rw [isEmpty_eq]; simp [hz]) (by rw [isEmpty_eq]; simp [hz])
      · simp only [kindK, hn, hg, hb1, hz] at h
        simp [hn] at h
        obtain ⟨rfl, rfl, rfl, rfl⟩ := h
        exact kind_i2 s rest pre 0 w h3' hrest hpre (hN _ _ hn).1 (hN _ _ hn).2 hg (hB _ _ hb1).1 (hB _ _ hb1).2 (hN _ _ hb2).1 (hN _ _ hb2).2 (hN _ _ hb3).1 (hN _ _ hb3).2 (by rw [empty_list]; simp [hz]) (by rw [bne, empty_list]; simp [hz]) (by rw [isEmpty_eq]; simp [hz]) (by rw [isEmpty_eq]; simp [hz])
    by_cases hb2 : bt s 2 = 2
    · have hb3 : ¬ bt s 2 = 3 := by omega
      by_cases h0 : e = 0
      · simp [kindK, hn, hg, hb2, h0] at h
        obtain ⟨rfl, rfl, rfl, rfl⟩ := h
        exact kind_e1 s rest pre e w h3' hrest hpre he (hN _ _ hn).1 (hN _ _ hn).2 hg (hN _ _ hb1).1 (hN _ _ hb1).2 (hB _ _ hb2).1 (hB _ _ hb2).2 (hB _ _ h0).1 (hB _ _ h0).2
      · simp [kindK, hn, hg, hb2, h0] at h
        obtain ⟨rfl, rfl, rfl, rfl⟩ := h
        exact kind_e2 s rest pre e w h3' hrest hpre he (hN _ _ hn).1 (hN _ _ hn).2 hg (hN _ _ hb1).1 (hN _ _ hb1).2 (hB _ _ hb2).1 (hB _ _ hb2).2 (hN _ _ hb3).1 (hN _ _ hb3).2 (hN _ _ h0).1 (hN _ _ h0).2
    by_cases hb3 : bt s 2 = 3
    · by_cases h2 : rest.size = 2
      · have h2' : (rest.size : Int) = 2 := by omega
        by_cases hk : goodBlockB (num2 rest) = true
        · simp [kindK, hn, hg, hb3, h2, hk] at h
          obtain ⟨rfl, rfl, rfl, rfl⟩ := h
          exact kind_k1 s rest pre 0 w h3' hrest hpre (by omega) (hN _ _ hn).1 (hN _ _ hn).2 hg (hN _ _ hb1).1 (hN _ _ hb1).2 (hN _ _ hb2).1 (hN _ _ hb2).2 (hB _ _ hb3).1 (hB _ _ hb3).2 (hB _ _ h2').1 (hB _ _ h2').2 (hBn _ _ h2).1 (hBn _ _ h2).2 hk
        · replace hk : goodBlockB (num2 rest) = false := Bool.eq_false_iff.mpr hk
          simp [kindK, hn, hg, hb3, h2, hk] at h
          obtain ⟨rfl, rfl, rfl, rfl⟩ := h
          exact kind_k2 s rest pre 0 w h3' hrest hpre (by omega) (hN _ _ hn).1 (hN _ _ hn).2 hg (hN _ _ hb1).1 (hN _ _ hb1).2 (hN _ _ hb2).1 (hN _ _ hb2).2 (hB _ _ hb3).1 (hB _ _ hb3).2 (hB _ _ h2').1 (hB _ _ h2').2 (hBn _ _ h2).1 (hBn _ _ h2).2 hk
      · have h2' : ¬ (rest.size : Int) = 2 := by omega
        simp [kindK, hn, hg, hb3, h2] at h
        obtain ⟨rfl, rfl, rfl, rfl⟩ := h
        exact kind_k3 s rest pre 0 w h3' hrest hpre (hN _ _ hn).1 (hN _ _ hn).2 hg (hN _ _ hb1).1 (hN _ _ hb1).2 (hN _ _ hb2).1 (hN _ _ hb2).2 (hB _ _ hb3).1 (hB _ _ hb3).2 (hN _ _ h2').1 (hN _ _ h2').2 (hNn _ _ h2).1 (hNn _ _ h2).2
    simp [kindK, hn, hg, hb1, hb2, hb3] at h
    obtain ⟨rfl, rfl, rfl, rfl⟩ := h
    exact kind_z1 s rest pre 0 w h3' hrest hpre (hN _ _ hn).1 (hN _ _ hn).2 hg (hN _ _ hb1).1 (hN _ _ hb1).2 (hN _ _ hb2).1 (hN _ _ hb2).2 (hN _ _ hb3).1 (hN _ _ hb3).2
end Go.Proofs.Ytakchpeohmkpkaa.Q

namespace Go.Proofs.Ytakchpeohmkpkaa.Q
open Go.RowKit Go.Proofs.YtakchpeohmkpkaaW.PrintWords Go.Proofs.YtakchpeohmkpkaaW.PrintLast Go.Proofs.YtakchpeohmkpkaaW.PrintMore
set_option linter.unusedVariables false
set_option linter.unusedSimpArgs false

theorem in_calls (n m : Int) (r : Bool) (w : World) (h : (decide (0 ≤ n) && decide (n ≤ m)) = r) : Calls Try.prog 71 #[.int .i64 n, .int .i64 m] w fun e w' => e = .returned (.bool r) ∧ Drawn0 w w' := by
  subst h
  by_cases h0 : 0 ≤ n
  · by_cases h1 : n ≤ m
    · go_enter Try.func71, Try.ntmps71
      go_wp2
      go_ret
      exact ⟨by simp [h0, h1], by repeat (first | exact Drawn0.refl _ | apply Drawn0.step)⟩
    · go_enter Try.func71, Try.ntmps71
      go_wp2
      go_ret
      exact ⟨by simp [h0, h1], by repeat (first | exact Drawn0.refl _ | apply Drawn0.step)⟩
  · go_enter Try.func71, Try.ntmps71
    go_wp2
    go_ret
    exact ⟨by rw [show decide (0 ≤ n) = false from decide_eq_false (by omega)]; rfl, by repeat (first | exact Drawn0.refl _ | apply Drawn0.step)⟩
theorem goodIno_f (a : Int) (r : Bool) (h : (decide (1 ≤ a) && decide (a ≤ 4096)) = r) : node_goodIno.f a = some r := by
  subst h
  unfold node_goodIno.f
  by_cases h0 : a ≥ 1
  · rw [if_pos h0]; simp; omega
  · rw [if_neg h0]; simp; omega
theorem goodKind_f (a : Int) (r : Bool) (h : (decide (1 ≤ a) && decide (a ≤ 3)) = r) : node_goodKind.f a = some r := by
  subst h
  unfold node_goodKind.f
  by_cases h0 : a ≥ 1
  · rw [if_pos h0]; simp; omega
  · rw [if_neg h0]; simp; omega

def rightInode (a0 a1 a2 a3 a4 a5 a6 : Int) : Bool := (decide (1 ≤ a0) && decide (a0 ≤ 4096)) && (decide (1 ≤ a1) && decide (a1 ≤ 3)) && (decide (0 ≤ a2) && decide (a2 ≤ 511)) && (decide (0 ≤ a3) && decide (a3 ≤ 65535)) && (decide (0 ≤ a4) && decide (a4 ≤ 65535)) && (decide (0 ≤ a5) && decide (a5 ≤ 100)) && (decide (0 ≤ a6) && decide (a6 ≤ 16384))
def node_right.f (a0 a1 a2 a3 a4 a5 a6 : Int) : Option Bool := some (rightInode a0 a1 a2 a3 a4 a5 a6)
set_option maxHeartbeats 8000000 in
set_option maxRecDepth 100000 in
theorem right_0 (a0 a1 a2 a3 a4 a5 a6 : Int) (w : World) (h0 : (decide (1 ≤ a0) && decide (a0 ≤ 4096)) = false) : Calls Try.prog 59 #[.agg #[.int .i64 a0, .int .i64 a1, .int .i64 a2, .int .i64 a3, .int .i64 a4, .int .i64 a5, .int .i64 a6]] w fun e w' => e = .returned (.bool false) ∧ Below w.heap.size w w' := by
  have hu52 := Try.underlying52
  have G0 := Aside0.mk (goodIno_f a0 _ h0)
  clear h0
  go_enter Try.func59, Try.ntmps59
  go_wp2_with (first
    | (go_at_call 56; (with_reducible refine (node_goodIno.calls a0 false _ G0.out).mono ?_); rintro e w' ⟨rfl, ⟨nd0, rfl⟩⟩))
  go_ret
  refine ⟨?_, by repeat (first | exact (below_alloc (Below.refl _ _) _) | apply pw_below_drewN | apply below_drew1)⟩
  first | rfl | simp [*]
set_option maxHeartbeats 8000000 in
set_option maxRecDepth 100000 in
theorem right_1 (a0 a1 a2 a3 a4 a5 a6 : Int) (w : World) (h0 : (decide (1 ≤ a0) && decide (a0 ≤ 4096)) = true) (h1 : (decide (1 ≤ a1) && decide (a1 ≤ 3)) = false) : Calls Try.prog 59 #[.agg #[.int .i64 a0, .int .i64 a1, .int .i64 a2, .int .i64 a3, .int .i64 a4, .int .i64 a5, .int .i64 a6]] w fun e w' => e = .returned (.bool false) ∧ Below w.heap.size w w' := by
  have hu52 := Try.underlying52
  have G0 := Aside0.mk (goodIno_f a0 _ h0)
  have G1 := Aside0.mk (goodKind_f a1 _ h1)
  clear h0 h1
  go_enter Try.func59, Try.ntmps59
  go_wp2_with (first
    | (go_at_call 56; (with_reducible refine (node_goodIno.calls a0 true _ G0.out).mono ?_); rintro e w' ⟨rfl, ⟨nd0, rfl⟩⟩)
    | (go_at_call 64; (with_reducible refine (node_goodKind.calls a1 false _ G1.out).mono ?_); rintro e w' ⟨rfl, ⟨nd1, rfl⟩⟩))
  go_ret
  refine ⟨?_, by repeat (first | exact (below_alloc (Below.refl _ _) _) | apply pw_below_drewN | apply below_drew1)⟩
  first | rfl | simp [*]
set_option maxHeartbeats 8000000 in
set_option maxRecDepth 100000 in
theorem right_2 (a0 a1 a2 a3 a4 a5 a6 : Int) (w : World) (h0 : (decide (1 ≤ a0) && decide (a0 ≤ 4096)) = true) (h1 : (decide (1 ≤ a1) && decide (a1 ≤ 3)) = true) (h2 : (decide (0 ≤ a2) && decide (a2 ≤ 511)) = false) : Calls Try.prog 59 #[.agg #[.int .i64 a0, .int .i64 a1, .int .i64 a2, .int .i64 a3, .int .i64 a4, .int .i64 a5, .int .i64 a6]] w fun e w' => e = .returned (.bool false) ∧ Below w.heap.size w w' := by
  have hu52 := Try.underlying52
  have G0 := Aside0.mk (goodIno_f a0 _ h0)
  have G1 := Aside0.mk (goodKind_f a1 _ h1)
  have G2 := Aside0.mk h2
  clear h0 h1 h2
  go_enter Try.func59, Try.ntmps59
  go_wp2_with (first
    | (go_at_call 56; (with_reducible refine (node_goodIno.calls a0 true _ G0.out).mono ?_); rintro e w' ⟨rfl, ⟨nd0, rfl⟩⟩)
    | (go_at_call 64; (with_reducible refine (node_goodKind.calls a1 true _ G1.out).mono ?_); rintro e w' ⟨rfl, ⟨nd1, rfl⟩⟩)
    | (go_at_call 71; (with_reducible refine (in_calls a2 511 false _ G2.out).mono ?_); rintro e w' ⟨rfl, ⟨nd2, rfl⟩⟩))
  go_ret
  refine ⟨?_, by repeat (first | exact (below_alloc (Below.refl _ _) _) | apply pw_below_drewN | apply below_drew1)⟩
  first | rfl | simp [*]
set_option maxHeartbeats 8000000 in
set_option maxRecDepth 100000 in
theorem right_3 (a0 a1 a2 a3 a4 a5 a6 : Int) (w : World) (h0 : (decide (1 ≤ a0) && decide (a0 ≤ 4096)) = true) (h1 : (decide (1 ≤ a1) && decide (a1 ≤ 3)) = true) (h2 : (decide (0 ≤ a2) && decide (a2 ≤ 511)) = true) (h3 : (decide (0 ≤ a3) && decide (a3 ≤ 65535)) = false) : Calls Try.prog 59 #[.agg #[.int .i64 a0, .int .i64 a1, .int .i64 a2, .int .i64 a3, .int .i64 a4, .int .i64 a5, .int .i64 a6]] w fun e w' => e = .returned (.bool false) ∧ Below w.heap.size w w' := by
  have hu52 := Try.underlying52
  have G0 := Aside0.mk (goodIno_f a0 _ h0)
  have G1 := Aside0.mk (goodKind_f a1 _ h1)
  have G2 := Aside0.mk h2
  have G3 := Aside0.mk h3
  clear h0 h1 h2 h3
  go_enter Try.func59, Try.ntmps59
  go_wp2_with (first
    | (go_at_call 56; (with_reducible refine (node_goodIno.calls a0 true _ G0.out).mono ?_); rintro e w' ⟨rfl, ⟨nd0, rfl⟩⟩)
    | (go_at_call 64; (with_reducible refine (node_goodKind.calls a1 true _ G1.out).mono ?_); rintro e w' ⟨rfl, ⟨nd1, rfl⟩⟩)
    | (go_at_call 71; (with_reducible refine (in_calls a2 511 true _ G2.out).mono ?_); rintro e w' ⟨rfl, ⟨nd2, rfl⟩⟩)
    | (go_at_call 71; (with_reducible refine (in_calls a3 65535 false _ G3.out).mono ?_); rintro e w' ⟨rfl, ⟨nd3, rfl⟩⟩))
  go_ret
  refine ⟨?_, by repeat (first | exact (below_alloc (Below.refl _ _) _) | apply pw_below_drewN | apply below_drew1)⟩
  first | rfl | simp [*]
set_option maxHeartbeats 8000000 in
set_option maxRecDepth 100000 in
theorem right_4 (a0 a1 a2 a3 a4 a5 a6 : Int) (w : World) (h0 : (decide (1 ≤ a0) && decide (a0 ≤ 4096)) = true) (h1 : (decide (1 ≤ a1) && decide (a1 ≤ 3)) = true) (h2 : (decide (0 ≤ a2) && decide (a2 ≤ 511)) = true) (h3 : (decide (0 ≤ a3) && decide (a3 ≤ 65535)) = true) (h4 : (decide (0 ≤ a4) && decide (a4 ≤ 65535)) = false) : Calls Try.prog 59 #[.agg #[.int .i64 a0, .int .i64 a1, .int .i64 a2, .int .i64 a3, .int .i64 a4, .int .i64 a5, .int .i64 a6]] w fun e w' => e = .returned (.bool false) ∧ Below w.heap.size w w' := by
  have hu52 := Try.underlying52
  have G0 := Aside0.mk (goodIno_f a0 _ h0)
  have G1 := Aside0.mk (goodKind_f a1 _ h1)
  have G2 := Aside0.mk h2
  have G3 := Aside0.mk h3
  have G4 := Aside0.mk h4
  clear h0 h1 h2 h3 h4
  go_enter Try.func59, Try.ntmps59
  go_wp2_with (first
    | (go_at_call 56; (with_reducible refine (node_goodIno.calls a0 true _ G0.out).mono ?_); rintro e w' ⟨rfl, ⟨nd0, rfl⟩⟩)
    | (go_at_call 64; (with_reducible refine (node_goodKind.calls a1 true _ G1.out).mono ?_); rintro e w' ⟨rfl, ⟨nd1, rfl⟩⟩)
    | (go_at_call 71; (with_reducible refine (in_calls a2 511 true _ G2.out).mono ?_); rintro e w' ⟨rfl, ⟨nd2, rfl⟩⟩)
    | (go_at_call 71; (with_reducible refine (in_calls a3 65535 true _ G3.out).mono ?_); rintro e w' ⟨rfl, ⟨nd3, rfl⟩⟩)
    | (go_at_call 71; (with_reducible refine (in_calls a4 65535 false _ G4.out).mono ?_); rintro e w' ⟨rfl, ⟨nd4, rfl⟩⟩))
  go_ret
  refine ⟨?_, by repeat (first | exact (below_alloc (Below.refl _ _) _) | apply pw_below_drewN | apply below_drew1)⟩
  first | rfl | simp [*]
set_option maxHeartbeats 8000000 in
set_option maxRecDepth 100000 in
theorem right_5 (a0 a1 a2 a3 a4 a5 a6 : Int) (w : World) (h0 : (decide (1 ≤ a0) && decide (a0 ≤ 4096)) = true) (h1 : (decide (1 ≤ a1) && decide (a1 ≤ 3)) = true) (h2 : (decide (0 ≤ a2) && decide (a2 ≤ 511)) = true) (h3 : (decide (0 ≤ a3) && decide (a3 ≤ 65535)) = true) (h4 : (decide (0 ≤ a4) && decide (a4 ≤ 65535)) = true) (h5 : (decide (0 ≤ a5) && decide (a5 ≤ 100)) = false) : Calls Try.prog 59 #[.agg #[.int .i64 a0, .int .i64 a1, .int .i64 a2, .int .i64 a3, .int .i64 a4, .int .i64 a5, .int .i64 a6]] w fun e w' => e = .returned (.bool false) ∧ Below w.heap.size w w' := by
  have hu52 := Try.underlying52
  have G0 := Aside0.mk (goodIno_f a0 _ h0)
  have G1 := Aside0.mk (goodKind_f a1 _ h1)
  have G2 := Aside0.mk h2
  have G3 := Aside0.mk h3
  have G4 := Aside0.mk h4
  have G5 := Aside0.mk h5
  clear h0 h1 h2 h3 h4 h5
  go_enter Try.func59, Try.ntmps59
  go_wp2_with (first
    | (go_at_call 56; (with_reducible refine (node_goodIno.calls a0 true _ G0.out).mono ?_); rintro e w' ⟨rfl, ⟨nd0, rfl⟩⟩)
    | (go_at_call 64; (with_reducible refine (node_goodKind.calls a1 true _ G1.out).mono ?_); rintro e w' ⟨rfl, ⟨nd1, rfl⟩⟩)
    | (go_at_call 71; (with_reducible refine (in_calls a2 511 true _ G2.out).mono ?_); rintro e w' ⟨rfl, ⟨nd2, rfl⟩⟩)
    | (go_at_call 71; (with_reducible refine (in_calls a3 65535 true _ G3.out).mono ?_); rintro e w' ⟨rfl, ⟨nd3, rfl⟩⟩)
    | (go_at_call 71; (with_reducible refine (in_calls a4 65535 true _ G4.out).mono ?_); rintro e w' ⟨rfl, ⟨nd4, rfl⟩⟩)
    | (go_at_call 71; (with_reducible refine (in_calls a5 100 false _ G5.out).mono ?_); rintro e w' ⟨rfl, ⟨nd5, rfl⟩⟩))
  go_ret
  refine ⟨?_, by repeat (first | exact (below_alloc (Below.refl _ _) _) | apply pw_below_drewN | apply below_drew1)⟩
  first | rfl | simp [*]
set_option maxHeartbeats 8000000 in
set_option maxRecDepth 100000 in
theorem right_6 (a0 a1 a2 a3 a4 a5 a6 : Int) (w : World) (h0 : (decide (1 ≤ a0) && decide (a0 ≤ 4096)) = true) (h1 : (decide (1 ≤ a1) && decide (a1 ≤ 3)) = true) (h2 : (decide (0 ≤ a2) && decide (a2 ≤ 511)) = true) (h3 : (decide (0 ≤ a3) && decide (a3 ≤ 65535)) = true) (h4 : (decide (0 ≤ a4) && decide (a4 ≤ 65535)) = true) (h5 : (decide (0 ≤ a5) && decide (a5 ≤ 100)) = true) (h6 : (decide (0 ≤ a6) && decide (a6 ≤ 16384)) = false) : Calls Try.prog 59 #[.agg #[.int .i64 a0, .int .i64 a1, .int .i64 a2, .int .i64 a3, .int .i64 a4, .int .i64 a5, .int .i64 a6]] w fun e w' => e = .returned (.bool false) ∧ Below w.heap.size w w' := by
  have hu52 := Try.underlying52
  have G0 := Aside0.mk (goodIno_f a0 _ h0)
  have G1 := Aside0.mk (goodKind_f a1 _ h1)
  have G2 := Aside0.mk h2
  have G3 := Aside0.mk h3
  have G4 := Aside0.mk h4
  have G5 := Aside0.mk h5
  have G6 := Aside0.mk h6
  clear h0 h1 h2 h3 h4 h5 h6
  go_enter Try.func59, Try.ntmps59
  go_wp2_with (first
    | (go_at_call 56; (with_reducible refine (node_goodIno.calls a0 true _ G0.out).mono ?_); rintro e w' ⟨rfl, ⟨nd0, rfl⟩⟩)
    | (go_at_call 64; (with_reducible refine (node_goodKind.calls a1 true _ G1.out).mono ?_); rintro e w' ⟨rfl, ⟨nd1, rfl⟩⟩)
    | (go_at_call 71; (with_reducible refine (in_calls a2 511 true _ G2.out).mono ?_); rintro e w' ⟨rfl, ⟨nd2, rfl⟩⟩)
    | (go_at_call 71; (with_reducible refine (in_calls a3 65535 true _ G3.out).mono ?_); rintro e w' ⟨rfl, ⟨nd3, rfl⟩⟩)
    | (go_at_call 71; (with_reducible refine (in_calls a4 65535 true _ G4.out).mono ?_); rintro e w' ⟨rfl, ⟨nd4, rfl⟩⟩)
    | (go_at_call 71; (with_reducible refine (in_calls a5 100 true _ G5.out).mono ?_); rintro e w' ⟨rfl, ⟨nd5, rfl⟩⟩)
    | (go_at_call 71; (with_reducible refine (in_calls a6 16384 false _ G6.out).mono ?_); rintro e w' ⟨rfl, ⟨nd6, rfl⟩⟩))
  go_ret
  refine ⟨?_, by repeat (first | exact (below_alloc (Below.refl _ _) _) | apply pw_below_drewN | apply below_drew1)⟩
  first | rfl | simp [*]
set_option maxHeartbeats 8000000 in
set_option maxRecDepth 100000 in
theorem right_7 (a0 a1 a2 a3 a4 a5 a6 : Int) (w : World) (h0 : (decide (1 ≤ a0) && decide (a0 ≤ 4096)) = true) (h1 : (decide (1 ≤ a1) && decide (a1 ≤ 3)) = true) (h2 : (decide (0 ≤ a2) && decide (a2 ≤ 511)) = true) (h3 : (decide (0 ≤ a3) && decide (a3 ≤ 65535)) = true) (h4 : (decide (0 ≤ a4) && decide (a4 ≤ 65535)) = true) (h5 : (decide (0 ≤ a5) && decide (a5 ≤ 100)) = true) (h6 : (decide (0 ≤ a6) && decide (a6 ≤ 16384)) = true) : Calls Try.prog 59 #[.agg #[.int .i64 a0, .int .i64 a1, .int .i64 a2, .int .i64 a3, .int .i64 a4, .int .i64 a5, .int .i64 a6]] w fun e w' => e = .returned (.bool true) ∧ Below w.heap.size w w' := by
  have hu52 := Try.underlying52
  have G0 := Aside0.mk (goodIno_f a0 _ h0)
  have G1 := Aside0.mk (goodKind_f a1 _ h1)
  have G2 := Aside0.mk h2
  have G3 := Aside0.mk h3
  have G4 := Aside0.mk h4
  have G5 := Aside0.mk h5
  have G6 := Aside0.mk h6
  clear h0 h1 h2 h3 h4 h5 h6
  go_enter Try.func59, Try.ntmps59
  go_wp2_with (first
    | (go_at_call 56; (with_reducible refine (node_goodIno.calls a0 true _ G0.out).mono ?_); rintro e w' ⟨rfl, ⟨nd0, rfl⟩⟩)
    | (go_at_call 64; (with_reducible refine (node_goodKind.calls a1 true _ G1.out).mono ?_); rintro e w' ⟨rfl, ⟨nd1, rfl⟩⟩)
    | (go_at_call 71; (with_reducible refine (in_calls a2 511 true _ G2.out).mono ?_); rintro e w' ⟨rfl, ⟨nd2, rfl⟩⟩)
    | (go_at_call 71; (with_reducible refine (in_calls a3 65535 true _ G3.out).mono ?_); rintro e w' ⟨rfl, ⟨nd3, rfl⟩⟩)
    | (go_at_call 71; (with_reducible refine (in_calls a4 65535 true _ G4.out).mono ?_); rintro e w' ⟨rfl, ⟨nd4, rfl⟩⟩)
    | (go_at_call 71; (with_reducible refine (in_calls a5 100 true _ G5.out).mono ?_); rintro e w' ⟨rfl, ⟨nd5, rfl⟩⟩)
    | (go_at_call 71; (with_reducible refine (in_calls a6 16384 true _ G6.out).mono ?_); rintro e w' ⟨rfl, ⟨nd6, rfl⟩⟩))
  go_ret
  refine ⟨?_, by repeat (first | exact (below_alloc (Below.refl _ _) _) | apply pw_below_drewN | apply below_drew1)⟩
  first | rfl | simp [*]
theorem node_right.calls (a0 a1 a2 a3 a4 a5 a6 : Int) (r : Bool) (w : World) (h : node_right.f a0 a1 a2 a3 a4 a5 a6 = some r) : Calls Try.prog 59 #[.agg #[.int .i64 a0, .int .i64 a1, .int .i64 a2, .int .i64 a3, .int .i64 a4, .int .i64 a5, .int .i64 a6]] w fun e w' => e = .returned (.bool r) ∧ Below w.heap.size w w' := by
  cases Option.some.inj h
  cases h0 : (decide (1 ≤ a0) && decide (a0 ≤ 4096))
  · simpa [rightInode, h0] using right_0 a0 a1 a2 a3 a4 a5 a6 w h0
  cases h1 : (decide (1 ≤ a1) && decide (a1 ≤ 3))
  · simpa [rightInode, h0, h1] using right_1 a0 a1 a2 a3 a4 a5 a6 w h0 h1
  cases h2 : (decide (0 ≤ a2) && decide (a2 ≤ 511))
  · simpa [rightInode, h0, h1, h2] using right_2 a0 a1 a2 a3 a4 a5 a6 w h0 h1 h2
  cases h3 : (decide (0 ≤ a3) && decide (a3 ≤ 65535))
  · simpa [rightInode, h0, h1, h2, h3] using right_3 a0 a1 a2 a3 a4 a5 a6 w h0 h1 h2 h3
  cases h4 : (decide (0 ≤ a4) && decide (a4 ≤ 65535))
  · simpa [rightInode, h0, h1, h2, h3, h4] using right_4 a0 a1 a2 a3 a4 a5 a6 w h0 h1 h2 h3 h4
  cases h5 : (decide (0 ≤ a5) && decide (a5 ≤ 100))
  · simpa [rightInode, h0, h1, h2, h3, h4, h5] using right_5 a0 a1 a2 a3 a4 a5 a6 w h0 h1 h2 h3 h4 h5
  cases h6 : (decide (0 ≤ a6) && decide (a6 ≤ 16384))
  · simpa [rightInode, h0, h1, h2, h3, h4, h5, h6] using right_6 a0 a1 a2 a3 a4 a5 a6 w h0 h1 h2 h3 h4 h5 h6
  simpa [rightInode, h0, h1, h2, h3, h4, h5, h6] using right_7 a0 a1 a2 a3 a4 a5 a6 w h0 h1 h2 h3 h4 h5 h6
end Go.Proofs.Ytakchpeohmkpkaa.Q

namespace Go.Proofs.Ytakchpeohmkpkaa.Q
open Go.RowKit Go.Proofs.YtakchpeohmkpkaaW.PrintWords Go.Proofs.YtakchpeohmkpkaaW.PrintLast Go.Proofs.YtakchpeohmkpkaaW.PrintMore Go.Proofs.Ytakchpeohmkpkaa.Sep
set_option linter.unusedVariables false
set_option linter.unusedSimpArgs false
set_option maxHeartbeats 8000000 in
set_option maxRecDepth 100000 in
/-- (*reader).done -/
theorem done_calls (g : Nat) (A : Option Addr) (c at_ : Nat) (xs : List Int) (w0 w : World) (H H' : Frag) (HH : Holds w0 w H) (hm : (g, RdB A c xs at_) ∈ H) :
    Calls Try.prog 52 #[.pointer (some ⟨g, 0, none⟩)] w fun e w' => e = .returned (.bool ((at_ : Int) == (xs.length : Int))) ∧ Drawn0 w w' := by
  have c0 := HH.cell hm (i := 0) rfl
  have c1 := HH.cell hm (i := 1) rfl
  clear HH hm
  go_enter Try.func52, Try.ntmps52
  go_wp2
  go_quiet (fail)
  go_wp2
  go_ret
  exact ⟨by first | rfl | (simp; done), by repeat (first | exact Drawn0.refl _ | apply Drawn0.step)⟩
set_option maxHeartbeats 8000000 in
set_option maxRecDepth 100000 in
theorem parseInode_ok (k v : ByteArray) (g : Bool) (kd ino bl : Int) (nm : ByteArray) (w : World) (hk : node_Kind.f k = some (kd, ino, nm, bl)) (hv : v.size ≤ 281474976710656) (f0 : g = false) (f1 : (kd == 1) = true) (f2 : (kd != 1) = false) (f3 : ((((pos (bytesOf v) (pos (bytesOf v) (pos (bytesOf v) (pos (bytesOf v) (pos (bytesOf v) (pos (bytesOf v) 0 1) 2) 2) 2) 2) 4) : Nat) : Int) == ((bytesOf v).length : Int)) = true) (f4 : rightInode (ino) (leVal (nxt (bytesOf v) 0 1)) (leVal (nxt (bytesOf v) (pos (bytesOf v) 0 1) 2)) (leVal (nxt (bytesOf v) (pos (bytesOf v) (pos (bytesOf v) 0 1) 2) 2)) (leVal (nxt (bytesOf v) (pos (bytesOf v) (pos (bytesOf v) (pos (bytesOf v) 0 1) 2) 2) 2)) (leVal (nxt (bytesOf v) (pos (bytesOf v) (pos (bytesOf v) (pos (bytesOf v) (pos (bytesOf v) 0 1) 2) 2) 2) 2)) (leVal (nxt (bytesOf v) (pos (bytesOf v) (pos (bytesOf v) (pos (bytesOf v) (pos (bytesOf v) (pos (bytesOf v) 0 1) 2) 2) 2) 2) 4)) = true) :
    Calls Try.prog 34 #[.agg #[.string k, .string v, .bool g]] w fun e w' => e = .returned (.tuple #[.agg #[.int .i64 (ino), .int .i64 (leVal (nxt (bytesOf v) 0 1)), .int .i64 (leVal (nxt (bytesOf v) (pos (bytesOf v) 0 1) 2)), .int .i64 (leVal (nxt (bytesOf v) (pos (bytesOf v) (pos (bytesOf v) 0 1) 2) 2)), .int .i64 (leVal (nxt (bytesOf v) (pos (bytesOf v) (pos (bytesOf v) (pos (bytesOf v) 0 1) 2) 2) 2)), .int .i64 (leVal (nxt (bytesOf v) (pos (bytesOf v) (pos (bytesOf v) (pos (bytesOf v) (pos (bytesOf v) 0 1) 2) 2) 2) 2)), .int .i64 (leVal (nxt (bytesOf v) (pos (bytesOf v) (pos (bytesOf v) (pos (bytesOf v) (pos (bytesOf v) (pos (bytesOf v) 0 1) 2) 2) 2) 2) 4))], .bool true]) ∧ Below w.heap.size w w' := by
  try subst f0
  have HK := Aside0.mk hk
  have hby : Aside0 (Bytes (bytesOf v)) := Aside0.mk (bytes_of v)
  have HA := Aside0.mk (Holds.start w)
  clear hk
  have HR := Aside0.mk (show node_right.f (ino) (leVal (nxt (bytesOf v) 0 1)) (leVal (nxt (bytesOf v) (pos (bytesOf v) 0 1) 2)) (leVal (nxt (bytesOf v) (pos (bytesOf v) (pos (bytesOf v) 0 1) 2) 2)) (leVal (nxt (bytesOf v) (pos (bytesOf v) (pos (bytesOf v) (pos (bytesOf v) 0 1) 2) 2) 2)) (leVal (nxt (bytesOf v) (pos (bytesOf v) (pos (bytesOf v) (pos (bytesOf v) (pos (bytesOf v) 0 1) 2) 2) 2) 2)) (leVal (nxt (bytesOf v) (pos (bytesOf v) (pos (bytesOf v) (pos (bytesOf v) (pos (bytesOf v) (pos (bytesOf v) 0 1) 2) 2) 2) 2) 4)) = some true by unfold node_right.f; rw [f4])
  go_enter Try.func34, Try.ntmps34
  go_wp2_with (first
    | ((with_reducible apply load1_); (case HH => first | exact HA.out | exact HA.out.any rfl rfl rfl rfl); (case ht => rfl); (case hx => rfl); (case hw => rfl); (case hm => repeat (first | exact List.Mem.head _ | refine List.Mem.tail _ ?_)); (case hv => exact rfl); simp only [Act.put, List.setIfInBounds_toArray, List.set_cons_zero, List.set_cons_succ])
    | ((with_reducible apply loadN_ (n := 7)); (case HH => first | exact HA.out | exact HA.out.any rfl rfl rfl rfl); (case ht => rfl); (case hn => decide +kernel); (case hx => rfl); (case hw => rfl); (case hm => repeat (first | exact List.Mem.head _ | refine List.Mem.tail _ ?_)); (case hv => first | (simp only [List.drop_succ_cons, List.drop_zero, List.take_succ_cons, List.take_zero]; rfl) | rfl); (case hl => rfl); simp only [Act.put, List.setIfInBounds_toArray, List.set_cons_zero, List.set_cons_succ])
    | ((with_reducible apply box_); (case HH => first | exact HA.out | exact HA.out.any rfl rfl rfl rfl); (case hw => rfl); (case hev => conv => lhs; whnf); (case hy => rfl); intro bx w1 HB_; simp only [Act.put, List.setIfInBounds_toArray, List.set_cons_zero, List.set_cons_succ]; clear HA; have HA := Aside0.mk HB_; clear HB_)
    | ((with_reducible apply alloc_ (z := .agg #[.int .i64 0, .int .i64 0, .int .i64 0, .int .i64 0, .int .i64 0, .int .i64 0, .int .i64 0])); (case HH => first | exact HA.out | exact HA.out.any rfl rfl rfl rfl); (case hw => rfl); (case hz => kernel_rfl); (case hx => rfl); intro bx w1 HB_; simp only [Act.put, List.setIfInBounds_toArray, List.set_cons_zero, List.set_cons_succ]; clear HA; have HA := Aside0.mk HB_; clear HB_)
    | ((with_reducible apply store_); (case HH => first | exact HA.out | exact HA.out.any rfl rfl rfl rfl); (case hw => rfl); (case hx => rfl); (case hev => conv => lhs; whnf); (case hy => rfl); (case hm => repeat (first | exact Holds.At.here | apply Holds.At.there)); (case hl => rfl); (case hn => kernel_rfl); (case h1 => simp [Value.oneCell']); (case hi => simp); intro w1 HB_; simp only [splice, List.set_cons_zero, List.set_cons_succ] at HB_; clear HA; have HA := Aside0.mk HB_; clear HB_)
    | (go_at_call 30; (with_reducible refine (node_Kind.calls k kd ino nm bl _ HK.out).mono ?_); rintro e w1 ⟨rfl, hb_⟩; have HB_ := HA.out.call1 hb_ rfl rfl rfl rfl; clear hb_; clear HA; have HA := Aside0.mk HB_; clear HB_)
    | ((with_reducible apply conv_); (case HH => first | exact HA.out | exact HA.out.any rfl rfl rfl rfl); (case hw => rfl); (case hev => conv => lhs; whnf); (case hv => rfl); (case hs => exact Try.underlying9); (case hd => exact Try.underlying34); (case he => exact Try.underlying5); intro bs w1 obs capbs HB_ HSbs hcapbs; have HSbs := Aside0.mk HSbs; have hcapbs := Aside0.mk hcapbs; simp only [Act.put, List.setIfInBounds_toArray, List.set_cons_zero, List.set_cons_succ]; clear HA; have HA := Aside0.mk HB_; clear HB_)
    | (go_at_call 50; (with_reducible apply Calls.mono); (case h => go_loud (exact number_at (by first | exact HA.out | exact HA.out.any rfl rfl rfl rfl) (by repeat (first | exact Holds.At.here | apply Holds.At.there)) (by rw [bytesOf_length]; exact hv) hcapbs.out (by first | exact pos_le _ _ _ | exact Nat.zero_le _ | omega) (by decide) (HSbs.out.mono (by simp)) hby.out)); rintro e w1 ⟨rfl, HB_⟩; clear HA; have HA := Aside0.mk HB_; clear HB_)
    | (go_at_call 52; (with_reducible apply Calls.mono); (case h => exact done_calls _ _ _ _ (bytesOf v) w _ _ [] (by first | exact HA.out | exact HA.out.any rfl rfl rfl rfl) (by repeat (first | exact List.Mem.head _ | refine List.Mem.tail _ ?_))); rintro e w' ⟨rfl, ⟨nd, rfl⟩⟩)
    | (go_at_call 59; (with_reducible refine (node_right.calls (ino) (leVal (nxt (bytesOf v) 0 1)) (leVal (nxt (bytesOf v) (pos (bytesOf v) 0 1) 2)) (leVal (nxt (bytesOf v) (pos (bytesOf v) (pos (bytesOf v) 0 1) 2) 2)) (leVal (nxt (bytesOf v) (pos (bytesOf v) (pos (bytesOf v) (pos (bytesOf v) 0 1) 2) 2) 2)) (leVal (nxt (bytesOf v) (pos (bytesOf v) (pos (bytesOf v) (pos (bytesOf v) (pos (bytesOf v) 0 1) 2) 2) 2) 2)) (leVal (nxt (bytesOf v) (pos (bytesOf v) (pos (bytesOf v) (pos (bytesOf v) (pos (bytesOf v) (pos (bytesOf v) 0 1) 2) 2) 2) 2) 4)) _ _ HR.out).mono ?_); rintro e w1 ⟨rfl, hb_⟩; have HB_ := HA.out.call1 hb_ rfl rfl rfl rfl; clear hb_; clear HA; have HA := Aside0.mk HB_; clear HB_))
  (apply end_list [.cell 2 52, .tmp 3]; (case hres => rfl); (case hd => rfl); (case hvs => apply vcell (by first | exact HA.out | exact HA.out.any rfl rfl rfl rfl); (case hp => rfl); (case hm => repeat (first | exact List.Mem.head _ | refine List.Mem.tail _ ?_)); (case hag => rfl); (case hi => kernel_rfl); (case hvs => apply Vals.tmp; exact .nil)); (case hl => simp); (case hR => exact ⟨rfl, HA.out.below⟩))
set_option maxHeartbeats 8000000 in
set_option maxRecDepth 100000 in
theorem parseInode_g (k v : ByteArray) (g : Bool) (kd ino bl : Int) (nm : ByteArray) (w : World) (hk : node_Kind.f k = some (kd, ino, nm, bl)) (hv : v.size ≤ 281474976710656) (f0 : g = true) :
    Calls Try.prog 34 #[.agg #[.string k, .string v, .bool g]] w fun e w' => e = .returned (.tuple #[.agg #[.int .i64 (0), .int .i64 (0), .int .i64 (0), .int .i64 (0), .int .i64 (0), .int .i64 (0), .int .i64 (0)], .bool false]) ∧ Below w.heap.size w w' := by
  try subst f0
  have HK := Aside0.mk hk
  have hby : Aside0 (Bytes (bytesOf v)) := Aside0.mk (bytes_of v)
  have HA := Aside0.mk (Holds.start w)
  clear hk
  go_enter Try.func34, Try.ntmps34
  go_wp2_with (first
    | ((with_reducible apply load1_); (case HH => first | exact HA.out | exact HA.out.any rfl rfl rfl rfl); (case ht => rfl); (case hx => rfl); (case hw => rfl); (case hm => repeat (first | exact List.Mem.head _ | refine List.Mem.tail _ ?_)); (case hv => exact rfl); simp only [Act.put, List.setIfInBounds_toArray, List.set_cons_zero, List.set_cons_succ])
    | ((with_reducible apply loadN_ (n := 7)); (case HH => first | exact HA.out | exact HA.out.any rfl rfl rfl rfl); (case ht => rfl); (case hn => decide +kernel); (case hx => rfl); (case hw => rfl); (case hm => repeat (first | exact List.Mem.head _ | refine List.Mem.tail _ ?_)); (case hv => first | (simp only [List.drop_succ_cons, List.drop_zero, List.take_succ_cons, List.take_zero]; rfl) | rfl); (case hl => rfl); simp only [Act.put, List.setIfInBounds_toArray, List.set_cons_zero, List.set_cons_succ])
    | ((with_reducible apply box_); (case HH => first | exact HA.out | exact HA.out.any rfl rfl rfl rfl); (case hw => rfl); (case hev => conv => lhs; whnf); (case hy => rfl); intro bx w1 HB_; simp only [Act.put, List.setIfInBounds_toArray, List.set_cons_zero, List.set_cons_succ]; clear HA; have HA := Aside0.mk HB_; clear HB_)
    | ((with_reducible apply alloc_ (z := .agg #[.int .i64 0, .int .i64 0, .int .i64 0, .int .i64 0, .int .i64 0, .int .i64 0, .int .i64 0])); (case HH => first | exact HA.out | exact HA.out.any rfl rfl rfl rfl); (case hw => rfl); (case hz => kernel_rfl); (case hx => rfl); intro bx w1 HB_; simp only [Act.put, List.setIfInBounds_toArray, List.set_cons_zero, List.set_cons_succ]; clear HA; have HA := Aside0.mk HB_; clear HB_)
    | ((with_reducible apply store_); (case HH => first | exact HA.out | exact HA.out.any rfl rfl rfl rfl); (case hw => rfl); (case hx => rfl); (case hev => conv => lhs; whnf); (case hy => rfl); (case hm => repeat (first | exact Holds.At.here | apply Holds.At.there)); (case hl => rfl); (case hn => kernel_rfl); (case h1 => simp [Value.oneCell']); (case hi => simp); intro w1 HB_; simp only [splice, List.set_cons_zero, List.set_cons_succ] at HB_; clear HA; have HA := Aside0.mk HB_; clear HB_)
    | (go_at_call 30; (with_reducible refine (node_Kind.calls k kd ino nm bl _ HK.out).mono ?_); rintro e w1 ⟨rfl, hb_⟩; have HB_ := HA.out.call1 hb_ rfl rfl rfl rfl; clear hb_; clear HA; have HA := Aside0.mk HB_; clear HB_)
    | ((with_reducible apply conv_); (case HH => first | exact HA.out | exact HA.out.any rfl rfl rfl rfl); (case hw => rfl); (case hev => conv => lhs; whnf); (case hv => rfl); (case hs => exact Try.underlying9); (case hd => exact Try.underlying34); (case he => exact Try.underlying5); intro bs w1 obs capbs HB_ HSbs hcapbs; have HSbs := Aside0.mk HSbs; have hcapbs := Aside0.mk hcapbs; simp only [Act.put, List.setIfInBounds_toArray, List.set_cons_zero, List.set_cons_succ]; clear HA; have HA := Aside0.mk HB_; clear HB_)
    | (go_at_call 50; (with_reducible apply Calls.mono); (case h => go_loud (exact number_at (by first | exact HA.out | exact HA.out.any rfl rfl rfl rfl) (by repeat (first | exact Holds.At.here | apply Holds.At.there)) (by rw [bytesOf_length]; exact hv) hcapbs.out (by first | exact pos_le _ _ _ | exact Nat.zero_le _ | omega) (by decide) (HSbs.out.mono (by simp)) hby.out)); rintro e w1 ⟨rfl, HB_⟩; clear HA; have HA := Aside0.mk HB_; clear HB_)
    | (go_at_call 52; (with_reducible apply Calls.mono); (case h => exact done_calls _ _ _ _ (bytesOf v) w _ _ [] (by first | exact HA.out | exact HA.out.any rfl rfl rfl rfl) (by repeat (first | exact List.Mem.head _ | refine List.Mem.tail _ ?_))); rintro e w' ⟨rfl, ⟨nd, rfl⟩⟩))
  (apply end_list [.cell 2 52, .tmp 3]; (case hres => rfl); (case hd => rfl); (case hvs => apply vcell (by first | exact HA.out | exact HA.out.any rfl rfl rfl rfl); (case hp => rfl); (case hm => repeat (first | exact List.Mem.head _ | refine List.Mem.tail _ ?_)); (case hag => rfl); (case hi => kernel_rfl); (case hvs => apply Vals.tmp; exact .nil)); (case hl => simp); (case hR => exact ⟨rfl, HA.out.below⟩))
set_option maxHeartbeats 8000000 in
set_option maxRecDepth 100000 in
theorem parseInode_k (k v : ByteArray) (g : Bool) (kd ino bl : Int) (nm : ByteArray) (w : World) (hk : node_Kind.f k = some (kd, ino, nm, bl)) (hv : v.size ≤ 281474976710656) (f0 : g = false) (f1 : (kd == 1) = false) (f2 : (kd != 1) = true) :
    Calls Try.prog 34 #[.agg #[.string k, .string v, .bool g]] w fun e w' => e = .returned (.tuple #[.agg #[.int .i64 (0), .int .i64 (0), .int .i64 (0), .int .i64 (0), .int .i64 (0), .int .i64 (0), .int .i64 (0)], .bool false]) ∧ Below w.heap.size w w' := by
  try subst f0
  have HK := Aside0.mk hk
  have hby : Aside0 (Bytes (bytesOf v)) := Aside0.mk (bytes_of v)
  have HA := Aside0.mk (Holds.start w)
  clear hk
  go_enter Try.func34, Try.ntmps34
  go_wp2_with (first
    | ((with_reducible apply load1_); (case HH => first | exact HA.out | exact HA.out.any rfl rfl rfl rfl); (case ht => rfl); (case hx => rfl); (case hw => rfl); (case hm => repeat (first | exact List.Mem.head _ | refine List.Mem.tail _ ?_)); (case hv => exact rfl); simp only [Act.put, List.setIfInBounds_toArray, List.set_cons_zero, List.set_cons_succ])
    | ((with_reducible apply loadN_ (n := 7)); (case HH => first | exact HA.out | exact HA.out.any rfl rfl rfl rfl); (case ht => rfl); (case hn => decide +kernel); (case hx => rfl); (case hw => rfl); (case hm => repeat (first | exact List.Mem.head _ | refine List.Mem.tail _ ?_)); (case hv => first | (simp only [List.drop_succ_cons, List.drop_zero, List.take_succ_cons, List.take_zero]; rfl) | rfl); (case hl => rfl); simp only [Act.put, List.setIfInBounds_toArray, List.set_cons_zero, List.set_cons_succ])
    | ((with_reducible apply box_); (case HH => first | exact HA.out | exact HA.out.any rfl rfl rfl rfl); (case hw => rfl); (case hev => conv => lhs; whnf); (case hy => rfl); intro bx w1 HB_; simp only [Act.put, List.setIfInBounds_toArray, List.set_cons_zero, List.set_cons_succ]; clear HA; have HA := Aside0.mk HB_; clear HB_)
    | ((with_reducible apply alloc_ (z := .agg #[.int .i64 0, .int .i64 0, .int .i64 0, .int .i64 0, .int .i64 0, .int .i64 0, .int .i64 0])); (case HH => first | exact HA.out | exact HA.out.any rfl rfl rfl rfl); (case hw => rfl); (case hz => kernel_rfl); (case hx => rfl); intro bx w1 HB_; simp only [Act.put, List.setIfInBounds_toArray, List.set_cons_zero, List.set_cons_succ]; clear HA; have HA := Aside0.mk HB_; clear HB_)
    | ((with_reducible apply store_); (case HH => first | exact HA.out | exact HA.out.any rfl rfl rfl rfl); (case hw => rfl); (case hx => rfl); (case hev => conv => lhs; whnf); (case hy => rfl); (case hm => repeat (first | exact Holds.At.here | apply Holds.At.there)); (case hl => rfl); (case hn => kernel_rfl); (case h1 => simp [Value.oneCell']); (case hi => simp); intro w1 HB_; simp only [splice, List.set_cons_zero, List.set_cons_succ] at HB_; clear HA; have HA := Aside0.mk HB_; clear HB_)
    | (go_at_call 30; (with_reducible refine (node_Kind.calls k kd ino nm bl _ HK.out).mono ?_); rintro e w1 ⟨rfl, hb_⟩; have HB_ := HA.out.call1 hb_ rfl rfl rfl rfl; clear hb_; clear HA; have HA := Aside0.mk HB_; clear HB_)
    | ((with_reducible apply conv_); (case HH => first | exact HA.out | exact HA.out.any rfl rfl rfl rfl); (case hw => rfl); (case hev => conv => lhs; whnf); (case hv => rfl); (case hs => exact Try.underlying9); (case hd => exact Try.underlying34); (case he => exact Try.underlying5); intro bs w1 obs capbs HB_ HSbs hcapbs; have HSbs := Aside0.mk HSbs; have hcapbs := Aside0.mk hcapbs; simp only [Act.put, List.setIfInBounds_toArray, List.set_cons_zero, List.set_cons_succ]; clear HA; have HA := Aside0.mk HB_; clear HB_)
    | (go_at_call 50; (with_reducible apply Calls.mono); (case h => go_loud (exact number_at (by first | exact HA.out | exact HA.out.any rfl rfl rfl rfl) (by repeat (first | exact Holds.At.here | apply Holds.At.there)) (by rw [bytesOf_length]; exact hv) hcapbs.out (by first | exact pos_le _ _ _ | exact Nat.zero_le _ | omega) (by decide) (HSbs.out.mono (by simp)) hby.out)); rintro e w1 ⟨rfl, HB_⟩; clear HA; have HA := Aside0.mk HB_; clear HB_)
    | (go_at_call 52; (with_reducible apply Calls.mono); (case h => exact done_calls _ _ _ _ (bytesOf v) w _ _ [] (by first | exact HA.out | exact HA.out.any rfl rfl rfl rfl) (by repeat (first | exact List.Mem.head _ | refine List.Mem.tail _ ?_))); rintro e w' ⟨rfl, ⟨nd, rfl⟩⟩))
  (apply end_list [.cell 2 52, .tmp 3]; (case hres => rfl); (case hd => rfl); (case hvs => apply vcell (by first | exact HA.out | exact HA.out.any rfl rfl rfl rfl); (case hp => rfl); (case hm => repeat (first | exact List.Mem.head _ | refine List.Mem.tail _ ?_)); (case hag => rfl); (case hi => kernel_rfl); (case hvs => apply Vals.tmp; exact .nil)); (case hl => simp); (case hR => exact ⟨rfl, HA.out.below⟩))
set_option maxHeartbeats 8000000 in
set_option maxRecDepth 100000 in
theorem parseInode_d (k v : ByteArray) (g : Bool) (kd ino bl : Int) (nm : ByteArray) (w : World) (hk : node_Kind.f k = some (kd, ino, nm, bl)) (hv : v.size ≤ 281474976710656) (f0 : g = false) (f1 : (kd == 1) = true) (f2 : (kd != 1) = false) (f3 : ((((pos (bytesOf v) (pos (bytesOf v) (pos (bytesOf v) (pos (bytesOf v) (pos (bytesOf v) (pos (bytesOf v) 0 1) 2) 2) 2) 2) 4) : Nat) : Int) == ((bytesOf v).length : Int)) = false) :
    Calls Try.prog 34 #[.agg #[.string k, .string v, .bool g]] w fun e w' => e = .returned (.tuple #[.agg #[.int .i64 (0), .int .i64 (0), .int .i64 (0), .int .i64 (0), .int .i64 (0), .int .i64 (0), .int .i64 (0)], .bool false]) ∧ Below w.heap.size w w' := by
  try subst f0
  have HK := Aside0.mk hk
  have hby : Aside0 (Bytes (bytesOf v)) := Aside0.mk (bytes_of v)
  have HA := Aside0.mk (Holds.start w)
  clear hk
  go_enter Try.func34, Try.ntmps34
  go_wp2_with (first
    | ((with_reducible apply load1_); (case HH => first | exact HA.out | exact HA.out.any rfl rfl rfl rfl); (case ht => rfl); (case hx => rfl); (case hw => rfl); (case hm => repeat (first | exact List.Mem.head _ | refine List.Mem.tail _ ?_)); (case hv => exact rfl); simp only [Act.put, List.setIfInBounds_toArray, List.set_cons_zero, List.set_cons_succ])
    | ((with_reducible apply loadN_ (n := 7)); (case HH => first | exact HA.out | exact HA.out.any rfl rfl rfl rfl); (case ht => rfl); (case hn => decide +kernel); (case hx => rfl); (case hw => rfl); (case hm => repeat (first | exact List.Mem.head _ | refine List.Mem.tail _ ?_)); (case hv => first | (simp only [List.drop_succ_cons, List.drop_zero, List.take_succ_cons, List.take_zero]; rfl) | rfl); (case hl => rfl); simp only [Act.put, List.setIfInBounds_toArray, List.set_cons_zero, List.set_cons_succ])
    | ((with_reducible apply box_); (case HH => first | exact HA.out | exact HA.out.any rfl rfl rfl rfl); (case hw => rfl); (case hev => conv => lhs; whnf); (case hy => rfl); intro bx w1 HB_; simp only [Act.put, List.setIfInBounds_toArray, List.set_cons_zero, List.set_cons_succ]; clear HA; have HA := Aside0.mk HB_; clear HB_)
    | ((with_reducible apply alloc_ (z := .agg #[.int .i64 0, .int .i64 0, .int .i64 0, .int .i64 0, .int .i64 0, .int .i64 0, .int .i64 0])); (case HH => first | exact HA.out | exact HA.out.any rfl rfl rfl rfl); (case hw => rfl); (case hz => kernel_rfl); (case hx => rfl); intro bx w1 HB_; simp only [Act.put, List.setIfInBounds_toArray, List.set_cons_zero, List.set_cons_succ]; clear HA; have HA := Aside0.mk HB_; clear HB_)
    | ((with_reducible apply store_); (case HH => first | exact HA.out | exact HA.out.any rfl rfl rfl rfl); (case hw => rfl); (case hx => rfl); (case hev => conv => lhs; whnf); (case hy => rfl); (case hm => repeat (first | exact Holds.At.here | apply Holds.At.there)); (case hl => rfl); (case hn => kernel_rfl); (case h1 => simp [Value.oneCell']); (case hi => simp); intro w1 HB_; simp only [splice, List.set_cons_zero, List.set_cons_succ] at HB_; clear HA; have HA := Aside0.mk HB_; clear HB_)
    | (go_at_call 30; (with_reducible refine (node_Kind.calls k kd ino nm bl _ HK.out).mono ?_); rintro e w1 ⟨rfl, hb_⟩; have HB_ := HA.out.call1 hb_ rfl rfl rfl rfl; clear hb_; clear HA; have HA := Aside0.mk HB_; clear HB_)
    | ((with_reducible apply conv_); (case HH => first | exact HA.out | exact HA.out.any rfl rfl rfl rfl); (case hw => rfl); (case hev => conv => lhs; whnf); (case hv => rfl); (case hs => exact Try.underlying9); (case hd => exact Try.underlying34); (case he => exact Try.underlying5); intro bs w1 obs capbs HB_ HSbs hcapbs; have HSbs := Aside0.mk HSbs; have hcapbs := Aside0.mk hcapbs; simp only [Act.put, List.setIfInBounds_toArray, List.set_cons_zero, List.set_cons_succ]; clear HA; have HA := Aside0.mk HB_; clear HB_)
    | (go_at_call 50; (with_reducible apply Calls.mono); (case h => go_loud (exact number_at (by first | exact HA.out | exact HA.out.any rfl rfl rfl rfl) (by repeat (first | exact Holds.At.here | apply Holds.At.there)) (by rw [bytesOf_length]; exact hv) hcapbs.out (by first | exact pos_le _ _ _ | exact Nat.zero_le _ | omega) (by decide) (HSbs.out.mono (by simp)) hby.out)); rintro e w1 ⟨rfl, HB_⟩; clear HA; have HA := Aside0.mk HB_; clear HB_)
    | (go_at_call 52; (with_reducible apply Calls.mono); (case h => exact done_calls _ _ _ _ (bytesOf v) w _ _ [] (by first | exact HA.out | exact HA.out.any rfl rfl rfl rfl) (by repeat (first | exact List.Mem.head _ | refine List.Mem.tail _ ?_))); rintro e w' ⟨rfl, ⟨nd, rfl⟩⟩))
  (apply end_list [.cell 2 52, .tmp 3]; (case hres => rfl); (case hd => rfl); (case hvs => apply vcell (by first | exact HA.out | exact HA.out.any rfl rfl rfl rfl); (case hp => rfl); (case hm => repeat (first | exact List.Mem.head _ | refine List.Mem.tail _ ?_)); (case hag => rfl); (case hi => kernel_rfl); (case hvs => apply Vals.tmp; exact .nil)); (case hl => simp); (case hR => exact ⟨rfl, HA.out.below⟩))
set_option maxHeartbeats 8000000 in
set_option maxRecDepth 100000 in
theorem parseInode_r (k v : ByteArray) (g : Bool) (kd ino bl : Int) (nm : ByteArray) (w : World) (hk : node_Kind.f k = some (kd, ino, nm, bl)) (hv : v.size ≤ 281474976710656) (f0 : g = false) (f1 : (kd == 1) = true) (f2 : (kd != 1) = false) (f3 : ((((pos (bytesOf v) (pos (bytesOf v) (pos (bytesOf v) (pos (bytesOf v) (pos (bytesOf v) (pos (bytesOf v) 0 1) 2) 2) 2) 2) 4) : Nat) : Int) == ((bytesOf v).length : Int)) = true) (f4 : rightInode (ino) (leVal (nxt (bytesOf v) 0 1)) (leVal (nxt (bytesOf v) (pos (bytesOf v) 0 1) 2)) (leVal (nxt (bytesOf v) (pos (bytesOf v) (pos (bytesOf v) 0 1) 2) 2)) (leVal (nxt (bytesOf v) (pos (bytesOf v) (pos (bytesOf v) (pos (bytesOf v) 0 1) 2) 2) 2)) (leVal (nxt (bytesOf v) (pos (bytesOf v) (pos (bytesOf v) (pos (bytesOf v) (pos (bytesOf v) 0 1) 2) 2) 2) 2)) (leVal (nxt (bytesOf v) (pos (bytesOf v) (pos (bytesOf v) (pos (bytesOf v) (pos (bytesOf v) (pos (bytesOf v) 0 1) 2) 2) 2) 2) 4)) = false) :
    Calls Try.prog 34 #[.agg #[.string k, .string v, .bool g]] w fun e w' => e = .returned (.tuple #[.agg #[.int .i64 (0), .int .i64 (0), .int .i64 (0), .int .i64 (0), .int .i64 (0), .int .i64 (0), .int .i64 (0)], .bool false]) ∧ Below w.heap.size w w' := by
  try subst f0
  have HK := Aside0.mk hk
  have hby : Aside0 (Bytes (bytesOf v)) := Aside0.mk (bytes_of v)
  have HA := Aside0.mk (Holds.start w)
  clear hk
  have HR := Aside0.mk (show node_right.f (ino) (leVal (nxt (bytesOf v) 0 1)) (leVal (nxt (bytesOf v) (pos (bytesOf v) 0 1) 2)) (leVal (nxt (bytesOf v) (pos (bytesOf v) (pos (bytesOf v) 0 1) 2) 2)) (leVal (nxt (bytesOf v) (pos (bytesOf v) (pos (bytesOf v) (pos (bytesOf v) 0 1) 2) 2) 2)) (leVal (nxt (bytesOf v) (pos (bytesOf v) (pos (bytesOf v) (pos (bytesOf v) (pos (bytesOf v) 0 1) 2) 2) 2) 2)) (leVal (nxt (bytesOf v) (pos (bytesOf v) (pos (bytesOf v) (pos (bytesOf v) (pos (bytesOf v) (pos (bytesOf v) 0 1) 2) 2) 2) 2) 4)) = some false by unfold node_right.f; rw [f4])
  go_enter Try.func34, Try.ntmps34
  go_wp2_with (first
    | ((with_reducible apply load1_); (case HH => first | exact HA.out | exact HA.out.any rfl rfl rfl rfl); (case ht => rfl); (case hx => rfl); (case hw => rfl); (case hm => repeat (first | exact List.Mem.head _ | refine List.Mem.tail _ ?_)); (case hv => exact rfl); simp only [Act.put, List.setIfInBounds_toArray, List.set_cons_zero, List.set_cons_succ])
    | ((with_reducible apply loadN_ (n := 7)); (case HH => first | exact HA.out | exact HA.out.any rfl rfl rfl rfl); (case ht => rfl); (case hn => decide +kernel); (case hx => rfl); (case hw => rfl); (case hm => repeat (first | exact List.Mem.head _ | refine List.Mem.tail _ ?_)); (case hv => first | (simp only [List.drop_succ_cons, List.drop_zero, List.take_succ_cons, List.take_zero]; rfl) | rfl); (case hl => rfl); simp only [Act.put, List.setIfInBounds_toArray, List.set_cons_zero, List.set_cons_succ])
    | ((with_reducible apply box_); (case HH => first | exact HA.out | exact HA.out.any rfl rfl rfl rfl); (case hw => rfl); (case hev => conv => lhs; whnf); (case hy => rfl); intro bx w1 HB_; simp only [Act.put, List.setIfInBounds_toArray, List.set_cons_zero, List.set_cons_succ]; clear HA; have HA := Aside0.mk HB_; clear HB_)
    | ((with_reducible apply alloc_ (z := .agg #[.int .i64 0, .int .i64 0, .int .i64 0, .int .i64 0, .int .i64 0, .int .i64 0, .int .i64 0])); (case HH => first | exact HA.out | exact HA.out.any rfl rfl rfl rfl); (case hw => rfl); (case hz => kernel_rfl); (case hx => rfl); intro bx w1 HB_; simp only [Act.put, List.setIfInBounds_toArray, List.set_cons_zero, List.set_cons_succ]; clear HA; have HA := Aside0.mk HB_; clear HB_)
    | ((with_reducible apply store_); (case HH => first | exact HA.out | exact HA.out.any rfl rfl rfl rfl); (case hw => rfl); (case hx => rfl); (case hev => conv => lhs; whnf); (case hy => rfl); (case hm => repeat (first | exact Holds.At.here | apply Holds.At.there)); (case hl => rfl); (case hn => kernel_rfl); (case h1 => simp [Value.oneCell']); (case hi => simp); intro w1 HB_; simp only [splice, List.set_cons_zero, List.set_cons_succ] at HB_; clear HA; have HA := Aside0.mk HB_; clear HB_)
    | (go_at_call 30; (with_reducible refine (node_Kind.calls k kd ino nm bl _ HK.out).mono ?_); rintro e w1 ⟨rfl, hb_⟩; have HB_ := HA.out.call1 hb_ rfl rfl rfl rfl; clear hb_; clear HA; have HA := Aside0.mk HB_; clear HB_)
    | ((with_reducible apply conv_); (case HH => first | exact HA.out | exact HA.out.any rfl rfl rfl rfl); (case hw => rfl); (case hev => conv => lhs; whnf); (case hv => rfl); (case hs => exact Try.underlying9); (case hd => exact Try.underlying34); (case he => exact Try.underlying5); intro bs w1 obs capbs HB_ HSbs hcapbs; have HSbs := Aside0.mk HSbs; have hcapbs := Aside0.mk hcapbs; simp only [Act.put, List.setIfInBounds_toArray, List.set_cons_zero, List.set_cons_succ]; clear HA; have HA := Aside0.mk HB_; clear HB_)
    | (go_at_call 50; (with_reducible apply Calls.mono); (case h => go_loud (exact number_at (by first | exact HA.out | exact HA.out.any rfl rfl rfl rfl) (by repeat (first | exact Holds.At.here | apply Holds.At.there)) (by rw [bytesOf_length]; exact hv) hcapbs.out (by first | exact pos_le _ _ _ | exact Nat.zero_le _ | omega) (by decide) (HSbs.out.mono (by simp)) hby.out)); rintro e w1 ⟨rfl, HB_⟩; clear HA; have HA := Aside0.mk HB_; clear HB_)
    | (go_at_call 52; (with_reducible apply Calls.mono); (case h => exact done_calls _ _ _ _ (bytesOf v) w _ _ [] (by first | exact HA.out | exact HA.out.any rfl rfl rfl rfl) (by repeat (first | exact List.Mem.head _ | refine List.Mem.tail _ ?_))); rintro e w' ⟨rfl, ⟨nd, rfl⟩⟩)
    | (go_at_call 59; (with_reducible refine (node_right.calls (ino) (leVal (nxt (bytesOf v) 0 1)) (leVal (nxt (bytesOf v) (pos (bytesOf v) 0 1) 2)) (leVal (nxt (bytesOf v) (pos (bytesOf v) (pos (bytesOf v) 0 1) 2) 2)) (leVal (nxt (bytesOf v) (pos (bytesOf v) (pos (bytesOf v) (pos (bytesOf v) 0 1) 2) 2) 2)) (leVal (nxt (bytesOf v) (pos (bytesOf v) (pos (bytesOf v) (pos (bytesOf v) (pos (bytesOf v) 0 1) 2) 2) 2) 2)) (leVal (nxt (bytesOf v) (pos (bytesOf v) (pos (bytesOf v) (pos (bytesOf v) (pos (bytesOf v) (pos (bytesOf v) 0 1) 2) 2) 2) 2) 4)) _ _ HR.out).mono ?_); rintro e w1 ⟨rfl, hb_⟩; have HB_ := HA.out.call1 hb_ rfl rfl rfl rfl; clear hb_; clear HA; have HA := Aside0.mk HB_; clear HB_))
  (apply end_list [.cell 2 52, .tmp 3]; (case hres => rfl); (case hd => rfl); (case hvs => apply vcell (by first | exact HA.out | exact HA.out.any rfl rfl rfl rfl); (case hp => rfl); (case hm => repeat (first | exact List.Mem.head _ | refine List.Mem.tail _ ?_)); (case hag => rfl); (case hi => kernel_rfl); (case hvs => apply Vals.tmp; exact .nil)); (case hl => simp); (case hR => exact ⟨rfl, HA.out.below⟩))
/-- What a node is read as_, as_ an inode. -/
def parseI (g : Bool) (kd ino : Int) (v : ByteArray) : Int × Int × Int × Int × Int × Int × Int × Bool :=
  if g = false ∧ kd = 1 ∧ (pos (bytesOf v) (pos (bytesOf v) (pos (bytesOf v) (pos (bytesOf v) (pos (bytesOf v) (pos (bytesOf v) 0 1) 2) 2) 2) 2) 4) = (bytesOf v).length ∧ rightInode (ino) (leVal (nxt (bytesOf v) 0 1)) (leVal (nxt (bytesOf v) (pos (bytesOf v) 0 1) 2)) (leVal (nxt (bytesOf v) (pos (bytesOf v) (pos (bytesOf v) 0 1) 2) 2)) (leVal (nxt (bytesOf v) (pos (bytesOf v) (pos (bytesOf v) (pos (bytesOf v) 0 1) 2) 2) 2)) (leVal (nxt (bytesOf v) (pos (bytesOf v) (pos (bytesOf v) (pos (bytesOf v) (pos (bytesOf v) 0 1) 2) 2) 2) 2)) (leVal (nxt (bytesOf v) (pos (bytesOf v) (pos (bytesOf v) (pos (bytesOf v) (pos (bytesOf v) (pos (bytesOf v) 0 1) 2) 2) 2) 2) 4)) = true then (ino, leVal (nxt (bytesOf v) 0 1), leVal (nxt (bytesOf v) (pos (bytesOf v) 0 1) 2), leVal (nxt (bytesOf v) (pos (bytesOf v) (pos (bytesOf v) 0 1) 2) 2), leVal (nxt (bytesOf v) (pos (bytesOf v) (pos (bytesOf v) (pos (bytesOf v) 0 1) 2) 2) 2), leVal (nxt (bytesOf v) (pos (bytesOf v) (pos (bytesOf v) (pos (bytesOf v) (pos (bytesOf v) 0 1) 2) 2) 2) 2), leVal (nxt (bytesOf v) (pos (bytesOf v) (pos (bytesOf v) (pos (bytesOf v) (pos (bytesOf v) (pos (bytesOf v) 0 1) 2) 2) 2) 2) 4), true) else (0, 0, 0, 0, 0, 0, 0, false)
def node_ParseInode.f (k v : ByteArray) (g : Bool) : Option (Int × Int × Int × Int × Int × Int × Int × Bool) :=
  (node_Kind.f k).bind fun t => if v.size ≤ 281474976710656 then some (parseI g t.1 t.2.1 v) else none
theorem node_ParseInode.calls (a0_0 : ByteArray) (a0_1 : ByteArray) (a0_2 : Bool) (r1 : Int) (r2 : Int) (r3 : Int) (r4 : Int) (r5 : Int) (r6 : Int) (r7 : Int) (r8 : Bool) (w : World) (h : node_ParseInode.f a0_0 a0_1 a0_2 = some (r1, r2, r3, r4, r5, r6, r7, r8)) :
    Calls Try.prog 34 #[.agg #[.string a0_0, .string a0_1, .bool a0_2]] w fun e w' => e = .returned (.tuple #[.agg #[.int .i64 r1, .int .i64 r2, .int .i64 r3, .int .i64 r4, .int .i64 r5, .int .i64 r6, .int .i64 r7], .bool r8]) ∧ Below w.heap.size w w' := by
  unfold node_ParseInode.f at h
  obtain ⟨⟨kd, ino, nm, bl⟩, hk, h⟩ := Option.bind_eq_some_iff.mp h
  by_cases hv : a0_1.size ≤ 281474976710656
  rotate_left
  · rw [if_neg hv] at h
    cases h
  rw [if_pos hv] at h
  replace h := Option.some.inj h
  unfold parseI at h
  have hB : ∀ (a b : Int), a = b → (a == b) = true ∧ (a != b) = false := fun a b h => by subst h; simp
  have hN : ∀ (a b : Int), ¬ a = b → (a == b) = false ∧ (a != b) = true := fun a b h => by simp [h]
  cases a0_2 with
  | true =>
    rw [if_neg (by simp)] at h
    simp only [Prod.mk.injEq] at h
    obtain ⟨rfl, rfl, rfl, rfl, rfl, rfl, rfl, rfl⟩ := h
    exact parseInode_g a0_0 a0_1 true kd ino bl nm w hk hv rfl
  | false =>
    by_cases h1 : kd = 1
    rotate_left
    · rw [if_neg (by simp [h1])] at h
      simp only [Prod.mk.injEq] at h
      obtain ⟨rfl, rfl, rfl, rfl, rfl, rfl, rfl, rfl⟩ := h
      exact parseInode_k a0_0 a0_1 false kd ino bl nm w hk hv rfl (hN _ _ h1).1 (hN _ _ h1).2
    by_cases h2 : (pos (bytesOf a0_1) (pos (bytesOf a0_1) (pos (bytesOf a0_1) (pos (bytesOf a0_1) (pos (bytesOf a0_1) (pos (bytesOf a0_1) 0 1) 2) 2) 2) 2) 4) = (bytesOf a0_1).length
    rotate_left
    · rw [if_neg (fun hh => h2 hh.2.2.1)] at h
      simp only [Prod.mk.injEq] at h
      obtain ⟨rfl, rfl, rfl, rfl, rfl, rfl, rfl, rfl⟩ := h
      exact parseInode_d a0_0 a0_1 false kd ino bl nm w hk hv rfl (hB _ _ h1).1 (hB _ _ h1).2 (hN _ _ (by omega)).1
    by_cases h3 : rightInode (ino) (leVal (nxt (bytesOf a0_1) 0 1)) (leVal (nxt (bytesOf a0_1) (pos (bytesOf a0_1) 0 1) 2)) (leVal (nxt (bytesOf a0_1) (pos (bytesOf a0_1) (pos (bytesOf a0_1) 0 1) 2) 2)) (leVal (nxt (bytesOf a0_1) (pos (bytesOf a0_1) (pos (bytesOf a0_1) (pos (bytesOf a0_1) 0 1) 2) 2) 2)) (leVal (nxt (bytesOf a0_1) (pos (bytesOf a0_1) (pos (bytesOf a0_1) (pos (bytesOf a0_1) (pos (bytesOf a0_1) 0 1) 2) 2) 2) 2)) (leVal (nxt (bytesOf a0_1) (pos (bytesOf a0_1) (pos (bytesOf a0_1) (pos (bytesOf a0_1) (pos (bytesOf a0_1) (pos (bytesOf a0_1) 0 1) 2) 2) 2) 2) 4)) = true
    · rw [if_pos ⟨rfl, h1, h2, h3⟩] at h
      simp only [Prod.mk.injEq] at h
      obtain ⟨rfl, rfl, rfl, rfl, rfl, rfl, rfl, rfl⟩ := h
      exact parseInode_ok a0_0 a0_1 false kd ino bl nm w hk hv rfl (hB _ _ h1).1 (hB _ _ h1).2 (hB _ _ (by omega)).1 h3
    · rw [if_neg (fun hh => h3 hh.2.2.2)] at h
      simp only [Prod.mk.injEq] at h
      obtain ⟨rfl, rfl, rfl, rfl, rfl, rfl, rfl, rfl⟩ := h
      exact parseInode_r a0_0 a0_1 false kd ino bl nm w hk hv rfl (hB _ _ h1).1 (hB _ _ h1).2 (hB _ _ (by omega)).1 (Bool.eq_false_iff.mpr h3)
end Go.Proofs.Ytakchpeohmkpkaa.Q
