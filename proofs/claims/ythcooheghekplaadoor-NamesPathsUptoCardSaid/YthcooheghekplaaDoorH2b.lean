/- strings.SplitSeq over slashes: its iterator. -/
import Derived.Test.YthcooheghekplaaDoorH0
import Derived.Test.YthcooheghekplaaDoorH2a
namespace Go.Proofs.YthcooheghekplaaDoor.Cut
open Go.RowKit Go.Shelf
set_option linter.unusedVariables false
set_option linter.unusedSimpArgs false
attribute [local go_sem] Oper.semAt_some
def cutL : List UInt8 → List (List UInt8)
  | [] => [[]]
  | c :: r => if c == 47 then [] :: cutL r else match cutL r with
    | [] => [[c]]
    | h :: t => (c :: h) :: t
def mkB (l : List UInt8) : ByteArray := ⟨l.toArray⟩
def pieces (s : ByteArray) : List ByteArray := (cutL s.data.toList).map mkB
theorem cut_none : ∀ l, Lib.indexByte l 47 = -1 → cutL l = [l]
  | [], _ => rfl
  | c :: r, h => by
    have hg := Lib.indexByte_ge r 47
    unfold Lib.indexByte at h
    unfold cutL
    by_cases hc : (c == 47) = true
    · rw [if_pos hc] at h; exact absurd h (by decide)
    · rw [if_neg hc] at h
      rw [if_neg hc]
      by_cases hr : Lib.indexByte r 47 = -1
      · rw [cut_none r hr]
      · rw [if_neg (by simpa using hr)] at h
        exact absurd h (by omega)
theorem cut_some : ∀ l (k : Nat), Lib.indexByte l 47 = (k : Int) → k < l.length ∧ cutL l = l.take k :: cutL (l.drop (k + 1))
  | [], k, h => by unfold Lib.indexByte at h; omega
  | c :: r, k, h => by
    have hg := Lib.indexByte_ge r 47
    unfold Lib.indexByte at h
    by_cases hc : (c == 47) = true
    · rw [if_pos hc] at h
      obtain rfl : k = 0 := by omega
      refine ⟨by simp, ?_⟩
      conv => lhs; unfold cutL
      rw [if_pos hc]
      rfl
    · rw [if_neg hc] at h
      by_cases hr : Lib.indexByte r 47 = -1
      · rw [if_pos (by simpa using hr)] at h; omega
      · rw [if_neg (by simpa using hr)] at h
        obtain ⟨j, rfl⟩ : ∃ j, k = j + 1 := ⟨k - 1, by omega⟩
        obtain ⟨h1, h2⟩ := cut_some r j (by omega)
        refine ⟨by simp; omega, ?_⟩
        conv => lhs; unfold cutL
        rw [if_neg hc, h2]
        rfl
theorem mkB_self (s : ByteArray) : mkB s.data.toList = s := rfl
theorem pieces_none {s : ByteArray} (h : Lib.indexByte s.data.toList 47 = -1) : pieces s = [s] := by
  unfold pieces; rw [cut_none _ h]; rfl
theorem pieces_some {s : ByteArray} {k : Nat} (h : Lib.indexByte s.data.toList 47 = (k : Int)) : k < s.size ∧ pieces s = s.extract 0 k :: pieces (s.extract (k + 1) s.size) := by
  obtain ⟨h1, h2⟩ := cut_some _ _ h
  have hs : s.data.toList.length = s.size := by rw [Array.length_toList]; rfl
  refine ⟨by omega, ?_⟩
  have e1 : mkB (s.data.toList.take k) = s.extract 0 k := by
    apply ByteArray.ext
    apply Array.ext'
    simp [mkB]
  have e2 : (s.extract (k + 1) s.size).data.toList = s.data.toList.drop (k + 1) := by
    simp only [ByteArray.data_extract, Array.toList_extract]
    rw [List.extract_eq_take_drop]
    apply List.take_of_length_le
    rw [List.length_drop, hs]
    exact Nat.le_refl _
  unfold pieces
  rw [h2, e2, List.map_cons, e1]
theorem cell_at {W : World} {b : Nat} {v : Value} {t : TypeId} {q : Nat × Nat} (h : W.heap[b]? = some (.cells #[v] t q)) : W.cell? ⟨b, 0, none⟩ = some v := by simp [World.cell?, h]
theorem froz_at {W : World} {b : Nat} {v : Value} {t : TypeId} (h : W.heap[b]? = some (.cells #[v] t (0, 0))) : W.frozen? ⟨b, 0, none⟩ = false := by simp [World.frozen?, h]
theorem set_at {W : World} {b : Nat} {v u : Value} {t : TypeId} (h : W.heap[b]? = some (.cells #[v] t (0, 0))) : (W.setCell ⟨b, 0, none⟩ u).heap[b]? = some (.cells #[u] t (0, 0)) := one_setCell h
set_option maxRecDepth 100000 in
set_option maxHeartbeats 4000000 in
theorem iter (n : Nat) (hn : 1 ≤ n) (l b1 b2 b3 : Nat) (path : ByteArray) (hp : path.size ≤ 255) (n1 : b1 ≠ b2) (n3 : b3 ≠ b2) (J Jx : List ByteArray → World → Prop)
    (hJ : ∀ s A v, J s A → J s (A.setCell ⟨b2, 0, none⟩ v))
    (hY : ∀ pre x W1, J pre W1 → pre.length < (pieces path).length → YieldAt Fence.wide (n - 1) Tryd.prog l #[.string x] W1 fun e W' =>
      (e = .returned (.bool true) ∧ J (pre ++ [x]) W' ∧ Kept [b1, b2, b3] W1 W') ∨ (e = .returned (.bool false) ∧ Jx (pre ++ [x]) W'))
    (W : World) (k1 : W.heap[b1]? = some (.cells #[.string ⟨#[47]⟩] 9 (0, 0))) (k2 : W.heap[b2]? = some (.cells #[.string path] 9 (0, 0))) (k3 : W.heap[b3]? = some (.cells #[.int .i64 0] 3 (0, 0))) (h0 : J [] W) :
    CallsIn Fence.wide n Tryd.prog 51 #[.func (.yield l) #[] #[], .pointer (some ⟨b1, 0, none⟩), .pointer (some ⟨b2, 0, none⟩), .pointer (some ⟨b3, 0, none⟩)] W fun e W' => (∃ v, e = .returned v) ∧
      ((∃ xs, xs = pieces path ∧ J xs W') ∨ (∃ pre, pre <+: pieces path ∧ Jx pre W')) := by
  refine callsIn_of_wp Tryd.func51 rfl trivial ?_ rfl
  simp only [Tryd.ntmps51, List.size_toArray, List.length_cons, List.length_nil, Nat.reduceAdd, Nat.reduceSub, Array.replicate_succ, Array.replicate_zero, List.push_toArray, List.append_toArray, List.nil_append, List.cons_append]
  have c1 := cell_at k1
  have hz : (⟨#[47]⟩ : ByteArray).size = 1 := rfl
  gi_wp2
  gi_loopw [7, 8] (fun _ _ wr => ∃ (pre : List ByteArray) (s : ByteArray), pieces path = pre ++ pieces s ∧ s.size ≤ 255 ∧ wr.heap[b1]? = some (.cells #[.string ⟨#[47]⟩] 9 (0, 0)) ∧ wr.heap[b2]? = some (.cells #[.string s] 9 (0, 0)) ∧ wr.heap[b3]? = some (.cells #[.int .i64 0] 3 (0, 0)) ∧ J pre wr)
    (fun _ _ wr => match wr.cell? ⟨b2, 0, none⟩ with | some (.string s) => s.size | _ => 0)
  case atStart => exact ⟨[], path, rfl, hp, k1, k2, k3, h0⟩
  case round =>
    obtain ⟨pre, s, hs, hsz, k1', k2', k3', hj⟩ := hrel
    have d1 := cell_at k1'
    have d2 := cell_at k2'
    have d3 := cell_at k3'
    have f2 := froz_at k2'
    have hge := Lib.indexByte_ge s.data.toList 47
    rcases (by omega : Lib.indexByte s.data.toList 47 = -1 ∨ 0 ≤ Lib.indexByte s.data.toList 47) with hi | hi
    · obtain ⟨fn, tmps, assign, body, hy, hR⟩ := hY pre s wr hj (by rw [hs, pieces_none hi]; simp)
      gi_wp2_with (first | (refine ⟨trivial, ?_⟩; gi_at_call 40; refine (callsIn_wide.2 (Any.strings_Index_one Tryd.laysIndex s 47 _)).mono ?_; rintro e w' ⟨rfl, rfl⟩) | (gi_at_call 40; refine (callsIn_wide.2 (Any.strings_Index_one Tryd.laysIndex s 47 _)).mono ?_; rintro e w' ⟨rfl, rfl⟩))
      refine hR.mono ?_
      rintro e W3 (⟨rfl, hJ3, hk3⟩ | ⟨rfl, hJx3⟩)
      · gi_wp2
        go_end0
        exact ⟨⟨_, rfl⟩, .inl ⟨pre ++ [s], by rw [hs, pieces_none hi], hJ3⟩⟩
      · gi_wp2
        go_end0
        exact ⟨⟨_, rfl⟩, .inr ⟨pre ++ [s], by rw [hs, pieces_none hi]; exact ⟨[], by simp⟩, hJx3⟩⟩
    · obtain ⟨k, hk⟩ : ∃ k : Nat, Lib.indexByte s.data.toList 47 = (k : Int) := ⟨(Lib.indexByte s.data.toList 47).toNat, by omega⟩
      obtain ⟨hk1, hk2⟩ := pieces_some hk
      clear hi hge
      obtain ⟨fn, tmps, assign, body, hy, hR⟩ := hY pre (s.extract 0 k) wr hj (by rw [hs, hk2]; simp)
      gi_wp2_with (first | (refine ⟨trivial, ?_⟩; gi_at_call 40; refine (callsIn_wide.2 (Any.strings_Index_one Tryd.laysIndex s 47 _)).mono ?_; rintro e w' ⟨rfl, rfl⟩) | (gi_at_call 40; refine (callsIn_wide.2 (Any.strings_Index_one Tryd.laysIndex s 47 _)).mono ?_; rintro e w' ⟨rfl, rfl⟩))
      refine hR.mono ?_
      rintro e W3 (⟨rfl, hJ3, hk3⟩ | ⟨rfl, hJx3⟩)
      · have g1 := (hk3 b1 (by simp)).trans k1'
        have g2 := (hk3 b2 (by simp)).trans k2'
        have g3 := (hk3 b3 (by simp)).trans k3'
        have e1 := cell_at g1
        have e2 := cell_at g2
        have e3 := cell_at g3
        have q2 := froz_at g2
        have hkm : (k : Int) + 1 ≤ (s.size : Int) := by omega
        gi_wp2
        go_roundw
        case rel =>
          refine ⟨pre ++ [s.extract 0 k], s.extract (k + 1) s.size, ?_, ?_, ?_, ?_, ?_, ?_⟩
          · rw [hs, hk2]; simp
          · rw [ByteArray.size_extract]; omega
          · exact heap_set_ne n1 g1
          · exact set_at g2
          · exact heap_set_ne n3 g3
          · exact hJ _ _ _ hJ3
        case measure =>
          rw [cell_at (set_at g2), d2]
          show (s.extract (k + 1) s.size).size < s.size
          rw [ByteArray.size_extract]
          omega
      · gi_wp2
        refine bodyPost_ret (results_none rfl _ _ _) rfl ?_
        exact ⟨⟨_, rfl⟩, .inr ⟨pre ++ [s.extract 0 k], by rw [hs, hk2]; exact ⟨pieces (s.extract (k + 1) s.size), by simp⟩, hJx3⟩⟩
end Go.Proofs.YthcooheghekplaaDoor.Cut
