/- names.Sort: the library's Sorted over its Values. -/
import Derived.Test.YthcooheghekplaaDoorH4a
import Derived.Test.YthcooheghekplaaDoorH4b
import Derived.Sort.OwnSorted
import Derived.Shelf.Slices.In.SortNone
namespace Go.Proofs.YthcooheghekplaaDoor.Cut
open Go.RowKit Go.Shelf Go.Proofs.YthcooheghekplaaDoorW.PrintWords
set_option linter.unusedVariables false
set_option linter.unusedSimpArgs false
structure Ap (w0 W : World) (r : Nat) (v : Value) (l : List ByteArray) : Prop where
  bc : W.heap[r]? = some (.cells #[v] 22 (0, 0))
  row : W.ownsRow (r + 1) 9 1 v l.length (encs Value.string l)
  below : Below w0.heap.size w0 W
  size : r + 1 ≤ W.heap.size
theorem Ap.slice {w0 W : World} {r : Nat} {v : Value} {l : List ByteArray} (S : Ap w0 W r v l) : ∃ A c, v = .slice A l.length c ∧ l.length ≤ c := by
  rcases S.row.2 with ⟨rfl, h⟩ | ⟨g, cap, cur, rfl, hb, hc, hle, _⟩
  · exact ⟨none, 0, by rw [h], by omega⟩
  · exact ⟨_, cap, rfl, hle⟩
theorem Ap.abides {w0 W W' : World} {r : Nat} {v : Value} {l : List ByteArray} (S : Ap w0 W r v l) (hr : w0.heap.size = r) {row : Option Nat} (hg : W.grownBy W' row) (hrow : ∀ q, row = some q → r + 1 ≤ q ∧ ∃ o : Obj, W.heap[q]? = some o ∧ o.isCells = false) : Ap w0 W' r v l :=
  ⟨heap_kept S.bc hg (fun q e => (hrow q e).2), row_kept S.row hg (fun q e => (hrow q e).2), S.below.grown hg S.below.size (fun k e => by have := (hrow k e).1; omega), Nat.le_trans S.size hg.size⟩
theorem Ap.step {w0 W w1 : World} {r : Nat} {v v1 : Value} {l : List ByteArray} {x : ByteArray} {bs : List Nat} (S : Ap w0 W r v l) (hr : w0.heap.size = r) (hbs : ∀ k ∈ bs, k < r) {o : Obj} (hown : w1.ownsRow (r + 1) 9 1 v1 (l.length + 1) (encs Value.string l ++ [.string x])) (hg : (W.alloc o).grownBy w1 v.ownBlock) :
    KeepsFrom (r + 1) W (w1.setCell ⟨r, 0, none⟩ v1) ∧ Kept bs W (w1.setCell ⟨r, 0, none⟩ v1) ∧ Ap w0 (w1.setCell ⟨r, 0, none⟩ v1) r v1 (l ++ [x]) := by
  have hW := S.size
  have hown0 : (W.alloc o).ownsRow (r + 1) 9 1 v l.length (encs Value.string l) := S.row.kept (World.grownBy_alloc W o none) (by
    rcases S.row.2 with ⟨rfl, _⟩ | ⟨g, cap, cur, rfl, _⟩
    · exact .inl rfl
    · exact .inr (by simp [Value.ownBlock]))
  have hne : ∀ k, k < r + 1 → some k ≠ v.ownBlock := fun k hk e => by have := (row_block hown0 e.symm).1; omega
  have hk : ∀ k, k < r + 1 → w1.heap[k]? = W.heap[k]? := fun k hkB => (hg.block k (by rw [World.size_alloc]; omega) (hne k hkB)).trans (Below.heap_alloc W o k (by omega))
  refine ⟨?_, ?_, set_at ((hk _ (by omega)).trans S.bc), ?_, ?_, ?_⟩
  · refine (((KeepsOthers.alloc W o).trans (KeepsOthers.of_grownBy hg fun j o' ej hj => ?_)).trans (KeepsOthers.setCell _ _ _)).from _
    obtain ⟨_, cur, hc⟩ := row_block hown0 ej
    rw [hc] at hj
    cases hj
    rfl
  · intro b hb
    have := hbs b hb
    exact (Below.heap_setCell _ _ _ _ (by show b ≠ r; omega)).trans (hk b (by omega))
  · have := ownsRow_setCell_below hown (a := ⟨r, 0, none⟩) (by show r < r + 1; omega) v1
    rw [List.length_append]
    have e2 : encs Value.string (l ++ [x]) = encs Value.string l ++ [.string x] := by simp [encs]
    rw [e2]
    exact this
  · refine Below.setCell (Below.grown (S.below.alloc S.below.size o) hg (by rw [World.size_alloc]; have := S.below.size; omega) (fun k e => ?_)) (by show w0.heap.size ≤ r; omega) v1
    have := (row_block hown0 e).1
    omega
  · have := hg.size
    rw [World.size_alloc] at this
    rw [World.size_setCell]
    omega
attribute [local go_sem] Oper.semAt_some
def ApPost (l : List ByteArray) (w : World) (e : Ending) (w' : World) : Prop := ∃ v, e = .returned v ∧ w'.ownsRow w.heap.size 9 1 v l.length (encs Value.string l) ∧ Below w.heap.size w w'
set_option maxRecDepth 100000 in
set_option maxHeartbeats 4000000 in
theorem appendSeq (bx q o c : Nat) (A : Option Addr) (l : List ByteArray) (w : World) (hl : l.length < 8796093022208) (hq : q < w.heap.size) (k1 : w.heap[bx]? = some (.cells #[.slice A l.length c] 22 (0, 0))) (k2 : Lies w A q o l) :
    Calls Tryd.prog 59 #[.slice none 0 0, .func (.func 49) #[] #[.pointer (some ⟨bx, 0, none⟩)]] w (ApPost l w) := by
  refine (callsIn_wide (n := 4)).1 ?_
  refine callsIn_of_wp_marks Tryd.func59 rfl trivial ?_ rfl
  simp only [Tryd.ntmps59, List.size_toArray, List.length_cons, List.length_nil, Nat.reduceAdd, Nat.reduceSub, Array.replicate_succ, Array.replicate_zero, List.push_toArray, List.append_toArray, List.nil_append, List.cons_append]
  gi_wp2
  obtain ⟨r, hr⟩ : ∃ r, w.heap.size = r := ⟨_, rfl⟩
  rw [hr]
  have hbx := lt_heap k1
  obtain ⟨W0, hW0⟩ : ∃ W0, W0 = w.alloc (.cells #[.slice none 0 0] 22) := ⟨_, rfl⟩
  rw [← hW0]
  have s0 : W0.heap.size = r + 1 := by rw [hW0, World.size_alloc, hr]
  have hb0 : Below w.heap.size w W0 := by rw [hW0]; exact (Below.refl _ w).alloc (Nat.le_refl _) _
  have hS0 : Ap w W0 r (.slice none 0 0) [] := by
    refine ⟨?_, World.ownsRow_nil _ _ _ _, hb0, by omega⟩
    rw [hW0, ← hr]
    exact blk_new w _
  have k1' := blk_below k1 hb0
  have k2' : Lies W0 A q o l := k2.on (hb0.block q hq)
  clear hW0
  obtain ⟨i0, hi, hz0, hz1, hz2⟩ := info_parts Q.info9
  refine range_cut rfl (by omega) (gf := 49) (lb := #[.pointer (some ⟨bx, 0, none⟩)]) rfl trivial (enters_of Tryd.func49 (by kernel_rfl) rfl) (encs := fun x : ByteArray => #[Value.string x])
    (bs := [bx, q]) (S := fun xs => xs = l) (Sp := fun pre => pre <+: l) (N := l.length) (b := none) ?hbs (fun k e => by cases e) (w0 := W0) ?seq (Below.refl _ _) (fun _ => rfl)
    (fun pre W => ∃ v, Ap w W r v pre) (fun c pre W => False) ?hI ?hIx ?hJ ?hJx ?h0 (fun x => { tmps := #[.slice none 0 0, .func (.func 49) #[] #[.pointer (some ⟨bx, 0, none⟩)], .pointer (some ⟨r, 0, none⟩), undef, .slice none 0 0, .string x, .func (.func 49) #[] #[.pointer (some ⟨bx, 0, none⟩)], .string x, undef, undef, undef, undef, undef], defers := [] }) ?assign ?body ?done ?stop
  case hbs => intro k hk; simp only [List.mem_cons, List.not_mem_nil, or_false] at hk; omega
  case seq =>
    intro lp J Jx W hW hJ hJx hY hj0
    exact viter _ (by omega) lp bx q o c A l hl J Jx hY W ((hW.block _ (by omega)).trans k1') (k2'.on (hW.block _ (by omega))) hj0
  case hI =>
    rintro s X X' row ⟨v, hS⟩ hg hrow
    exact ⟨v, hS.abides hr hg (fun q e => by have := hrow q e; rw [s0] at this; exact this)⟩
  case hIx => exact fun _ _ _ _ _ h _ _ => h
  case hJ => exact fun k e => by cases e
  case hJx => exact fun k e => by cases e
  case h0 => exact ⟨_, hS0⟩
  case assign =>
    intro lp x W K hK
    gi_wp2
    exact hK
  case body =>
    rintro lp pre x W ⟨v, hS⟩ hlen
    rw [s0]
    obtain ⟨A1, c1, rfl, hcap⟩ := hS.slice
    have d1 := cell_at hS.bc
    have f1 := froz_at hS.bc
    obtain ⟨k, hk⟩ : ∃ k, pre.length = k := ⟨_, rfl⟩
    have hrow := hS.row
    rw [hk] at d1 hcap hrow hlen
    have hWs := hS.size
    gi_wp2_with (gi_at_builtin; go_loud (refine wpListIn_append_own _ rfl (.tmp 8) (.tmp 10) 22 rfl (r + 1) 9 i0 (.string ⟨#[]⟩) 1 16 Tryd.underlying22 hi hz0 hz1 hz2 rfl (by decide) (.slice A1 k c1) k (encs Value.string pre) rfl (hrow.alloc _) ⟨W.heap.size, 0, none⟩ 1 1 [.string x] rfl rfl (cell_one_new _ _ _) (by simp [Value.oneCell']) (by simp [maxLen]; omega) (by omega) (by rw [World.size_alloc]; omega) ?_); intro v1 w1 hown hg hnil; obtain ⟨g1, cap1, rfl⟩ := ownsRow_succ hown; go_loud (have hst := hS.step (x := x) (bs := [bx, q]) hr (by intro k hk; simp only [List.mem_cons, List.not_mem_nil, or_false] at hk; omega) (by rw [hk]; exact hown) (by rw [hk]; exact hg)); go_loud (have hp1 := cell_grown hS.bc hown hg (fun g e => by have := (row_block hrow e).1; omega)); have e1 := cell_at hp1; have e2 := froz_at hp1)
    exact ⟨hst.1, hst.2.1, _, hst.2.2⟩
  case done =>
    rintro D xs W hD rfl ⟨v, hS⟩ hK
    obtain ⟨A1, c1, rfl, hcap⟩ := hS.slice
    have d1 := cell_at hS.bc
    have f1 := froz_at hS.bc
    gi_wp2
    refine ⟨by simp, .inl ⟨_, _, rfl, run_takeDeferred hK, ?_⟩⟩
    refine ⟨_, results_tmp rfl _ _ _, _, rfl, ?_, ?_⟩
    · exact row_base (ownsRow_putObj hS.row _ hK rfl) (by omega)
    · exact hS.below.trans (belowK_b (w := w) (Nat.le_refl _) W D _ _ (by omega) hK rfl rfl)
  case stop =>
    rintro D c pre W hD hpre h hK
    exact h.elim
set_option maxRecDepth 100000 in
set_option maxHeartbeats 4000000 in
theorem collect (bx q o c : Nat) (A : Option Addr) (l : List ByteArray) (w : World) (hl : l.length < 8796093022208) (hq : q < w.heap.size) (k1 : w.heap[bx]? = some (.cells #[.slice A l.length c] 22 (0, 0))) (k2 : Lies w A q o l) :
    Calls Tryd.prog 47 #[.func (.func 49) #[] #[.pointer (some ⟨bx, 0, none⟩)]] w (ApPost l w) := by
  have hA := appendSeq bx q o c A l w hl hq k1 k2
  clear k1 k2
  go_enter Tryd.func47, Tryd.ntmps47
  go_wp2_with (go_at_call 59; (with_reducible refine hA.mono ?_); rintro e w' ⟨v, rfl, ho, hb⟩)
  go_ret
  exact ⟨_, rfl, ho, hb⟩
def sortT (l : List ByteArray) : List ByteArray := ((l.map (·.data.toList)).mergeSort (fun x y => decide (x ≤ y))).map mkB
theorem encs_sort (ts : List (List UInt8)) : ts.map encStr = encs Value.string (ts.map mkB) := by
  simp [encs, mkB, Function.comp]
def SortPost (l : List ByteArray) (w : World) (e : Ending) (w' : World) : Prop := ∃ v, e = .returned v ∧ w'.ownsRow w.heap.size 9 1 v (sortT l).length (encs Value.string (sortT l)) ∧ Below w.heap.size w w'
theorem sort_own (v : Value) (l : List ByteArray) (w0 W : World) (hl : l.length < 8796093022208) (hb : Below w0.heap.size w0 W) (ho : W.ownsRow w0.heap.size 9 1 v l.length (encs Value.string l)) :
    Calls Tryd.prog 48 #[v] W fun e w' => e = .returned (.tuple #[]) ∧ w'.ownsRow w0.heap.size 9 1 v (sortT l).length (encs Value.string (sortT l)) ∧ Below w0.heap.size w0 w' := by
  have hsl : (sortT l).length = l.length := by unfold sortT; rw [List.length_map, List.length_mergeSort, List.length_map]
  rcases ho.2 with ⟨rfl, hz⟩ | ⟨gb, cap, cur, rfl, hbase, hgb, r1, r2, r3, r4⟩
  · obtain rfl : l = [] := List.eq_nil_of_length_eq_zero hz
    refine (Any.slices_Sort_string_none Tryd.laysSort none 0 W).mono ?_
    rintro e w' ⟨rfl, rfl⟩
    have hnil : sortT [] = [] := by simp [sortT]
    rw [hnil]
    exact ⟨rfl, ho, hb⟩
  · have hcur : cur.toList.take (l.map (·.data.toList)).length = (l.map (·.data.toList)).map encStr := by
      rw [List.length_map]
      rw [Nat.mul_one] at r4
      rw [r4, encs_sort, List.map_map]
      congr 1
      exact (List.map_id l).symm
    have hH := holds_of_block hgb hcur
    have hgl : gb < W.heap.size := (Array.getElem?_eq_some_iff.1 hgb).1
    have hC := Any.slices_Sort_string Tryd.laysSort gb 0 cap (l.map (·.data.toList)) W hH hgl (by rw [List.length_map]; omega)
    rw [List.length_map] at hC
    refine hC.mono ?_
    rintro e w' ⟨rfl, nn, os, rfl⟩
    refine ⟨rfl, ?_, hb.grown (grownBy_sorted _) hb.size (fun j hj => by cases hj; exact hbase)⟩
    have := ownsRow_sorted (n := nn) (os := os) (ts := (l.map (·.data.toList)).mergeSort (fun x y => decide (x ≤ y))) (ss := l.map (·.data.toList)) (by simp) hbase hgb (by rw [List.length_map]; exact r1) r2 r3
    rw [List.length_map, encs_sort] at this
    rw [hsl]
    exact this
set_option maxRecDepth 100000 in
set_option maxHeartbeats 4000000 in
theorem sorted (bx q o c : Nat) (A : Option Addr) (l : List ByteArray) (w : World) (hl : l.length < 8796093022208) (hq : q < w.heap.size) (k1 : w.heap[bx]? = some (.cells #[.slice A l.length c] 22 (0, 0))) (k2 : Lies w A q o l) :
    Calls Tryd.prog 38 #[.func (.func 49) #[] #[.pointer (some ⟨bx, 0, none⟩)]] w (SortPost l w) := by
  have hA := collect bx q o c A l w hl hq k1 k2
  clear k1 k2
  go_enter Tryd.func38, Tryd.ntmps38
  go_wp2_with (first | (go_at_call 47; (with_reducible refine hA.mono ?_); rintro e w' ⟨v, rfl, ho, hb⟩; have hS := sort_own v l w w' hl hb ho; clear ho hb) | (go_at_call 48; (with_reducible refine hS.mono ?_); rintro e w'' ⟨rfl, ho, hb⟩))
  go_ret
  exact ⟨_, rfl, ho, hb⟩
theorem values (A : Option Addr) (n c : Nat) (w : World) : Calls Tryd.prog 39 #[.slice A n c] w fun e w' => e = .returned (.func (.func 49) #[] #[.pointer (some ⟨w.heap.size, 0, none⟩)]) ∧ w' = w.alloc (.cells #[.slice A n c] 22) := by
  go_enter Tryd.func39, Tryd.ntmps39
  go_wp2
  go_ret
  exact ⟨by simp, rfl⟩
end Go.Proofs.YthcooheghekplaaDoor.Cut
namespace Go.Proofs.YthcooheghekplaaDoor.Q
open Go.RowKit Go.Shelf Go.Proofs.YthcooheghekplaaDoorW.PrintWords Go.Proofs.YthcooheghekplaaDoor.Cut
def names_Sort.f (l0 : List ByteArray) : Option (List ByteArray) := if l0.length < 8796093022208 then some (sortT l0) else none
set_option maxRecDepth 100000 in
set_option maxHeartbeats 4000000 in
theorem names_Sort.calls (A0 : Option Addr) (c0 : Nat) (l0 : List ByteArray) (r : List ByteArray) (w : World) (hr0 : Kd.C Kd.string w A0 l0.length l0) (hc0 : l0.length ≤ c0) (h : names_Sort.f l0 = some r) :
    Calls Tryd.prog 25 #[.slice A0 l0.length c0] w fun e w' => ∃ v0_ : Value, e = .returned v0_ ∧ Kd.R Kd.string 9 w' w.heap.size (fun _ => True) v0_ r ∧ Below w.heap.size w w' := by
  unfold names_Sort.f at h
  split at h
  · rename_i hl
    cases h
    obtain ⟨q, o, hq⟩ := texts_at hr0
    obtain ⟨q', hql, hL⟩ : ∃ q', q' < w.heap.size + 1 ∧ Lies (w.alloc (.cells #[.slice A0 l0.length c0] 22)) A0 q' o l0 := by
      cases l0 with
      | nil => exact ⟨w.heap.size, by omega, fun j x hx => by simp at hx⟩
      | cons y ys =>
        have hlt := World.block_lt_of_cell? w _ (hq 0 y rfl).2
        exact ⟨q, by have : q < w.heap.size := hlt; omega, fun j x hx => ⟨(hq j x hx).1, (World.cell?_of_block (a := ⟨q, o + j, none⟩) (Below.heap_alloc w _ q hlt)).trans (hq j x hx).2⟩⟩
    have hV := values A0 l0.length c0 w
    have hS := sorted w.heap.size q' o c0 A0 l0 (w.alloc (.cells #[.slice A0 l0.length c0] 22)) hl (by rw [World.size_alloc]; omega) (blk_new w _) hL
    clear hr0 hc0 hq hL hql
    go_enter Tryd.func25, Tryd.ntmps25
    go_wp2_with (first | (go_at_call 39; (with_reducible refine hV.mono ?_); rintro e w' ⟨rfl, rfl⟩) | (go_at_call 38; (with_reducible refine hS.mono ?_); rintro e w'' ⟨v, rfl, ho, hb⟩))
    go_ret
    rw [World.size_alloc] at ho hb
    exact ⟨_, rfl, Kd.R_of_own (row_base ho (by omega)) (fun _ _ => trivial), ((Below.refl _ w).alloc (Nat.le_refl _) _).trans (hb.mono (by omega))⟩
  · cases h
end Go.Proofs.YthcooheghekplaaDoor.Q
