/- names.Split: what its loop keeps. -/
import Derived.Test.YthcooheghekplaaDoorH2b
import Derived.Test.YthcooheghekplaaDoorQ1
import Derived.Maps.OwnIn
namespace Go.Proofs.YthcooheghekplaaDoor.Cut
open Go.RowKit Go.Shelf Go.Proofs.YthcooheghekplaaDoorW.PrintWords
set_option linter.unusedVariables false
set_option linter.unusedSimpArgs false
/-- The parts that stand. -/
def col (l : List ByteArray) : List ByteArray := l.filter (fun x => x.size != 0)
def okl (l : List ByteArray) : Prop := (∀ x ∈ col l, x.size ≤ 24) ∧ (col l).length ≤ 32
instance (l : List ByteArray) : Decidable (okl l) := inferInstanceAs (Decidable (_ ∧ _))
theorem col_skip {l : List ByteArray} {x : ByteArray} (h : x.size = 0) : col (l ++ [x]) = col l := by simp [col, List.filter_append, h]
theorem col_snoc {l : List ByteArray} {x : ByteArray} (h : x.size ≠ 0) : col (l ++ [x]) = col l ++ [x] := by simp [col, List.filter_append, h]
theorem okl_pre {l m : List ByteArray} (h : l <+: m) (hm : okl m) : okl l := by
  obtain ⟨q, rfl⟩ := h
  unfold okl at hm ⊢
  have e : col (l ++ q) = col l ++ col q := by simp [col]
  rw [e] at hm
  exact ⟨fun x hx => hm.1 x (List.mem_append.2 (.inl hx)), by have := hm.2; rw [List.length_append] at this; omega⟩
/-- Between two rounds: the two results still zero, the path so far, all in blocks r, r + 1, r + 2; the row of its parts in a block from B on. -/
structure St (w0 W : World) (r B : Nat) (sl : Bool) (v : Value) (l : List ByteArray) : Prop where
  zc : W.heap[r]? = some (.cells #[.slice none 0 0, .bool false] 24 (0, 0))
  ec : W.heap[r + 1]? = some (.cells #[.int .i64 0] 25 (0, 0))
  pc : W.heap[r + 2]? = some (.cells #[v, .bool sl] 24 (0, 0))
  row : W.ownsRow B 9 1 v l.length (encs Value.string l)
  below : Below w0.heap.size w0 W
  size : B ≤ W.heap.size
/-- Where a round has refused. -/
structure Sx (w0 W : World) (r : Nat) : Prop where
  zc : W.heap[r]? = some (.cells #[.slice none 0 0, .bool false] 24 (0, 0))
  ec : W.heap[r + 1]? = some (.cells #[.int .i64 36] 25 (0, 0))
  below : Below w0.heap.size w0 W
theorem row_kept {W W' : World} {row : Option Nat} {base : Nat} {e : TypeId} {size : Nat} {v : Value} {k : Nat} {xs : List Value} (h : W.ownsRow base e size v k xs) (hg : W.grownBy W' row)
    (hr : ∀ q, row = some q → ∃ o : Obj, W.heap[q]? = some o ∧ o.isCells = false) : W'.ownsRow base e size v k xs := by
  refine h.kept hg ?_
  rcases h.2 with ⟨rfl, _⟩ | ⟨g, cap, cur, rfl, _, hc, _⟩
  · exact .inl rfl
  · right
    intro e
    obtain ⟨o, ho, hn⟩ := hr g e.symm
    rw [hc] at ho
    cases ho
    cases hn
theorem row_block {W : World} {base : Nat} {e : TypeId} {size : Nat} {v : Value} {k : Nat} {xs : List Value} (h : W.ownsRow base e size v k xs) {q : Nat} (hq : v.ownBlock = some q) : base ≤ q ∧ ∃ cur, W.heap[q]? = some (.cells cur e (0, 0)) := by
  rcases h.2 with ⟨rfl, _⟩ | ⟨g, cap, cur, rfl, hb, hc, _⟩
  · cases hq
  · cases hq
    exact ⟨hb, cur, hc⟩
theorem row_base {W : World} {base base' : Nat} {e : TypeId} {size : Nat} {v : Value} {k : Nat} {xs : List Value} (h : W.ownsRow base e size v k xs) (hb : base' ≤ base) : W.ownsRow base' e size v k xs := by
  obtain ⟨h1, h2⟩ := h
  refine ⟨h1, h2.imp id ?_⟩
  rintro ⟨g, cap, cur, h3, h4, r⟩
  exact ⟨g, cap, cur, h3, Nat.le_trans hb h4, r⟩
section
variable {w0 W W' w1 : World} {r B : Nat} {sl : Bool} {v v1 : Value} {l : List ByteArray} {x : ByteArray}
theorem heap_kept {k : Nat} {cs : Array Value} {t : TypeId} {q : Nat × Nat} {row : Option Nat} (h : W.heap[k]? = some (.cells cs t q)) (hg : W.grownBy W' row) (hr : ∀ q, row = some q → ∃ o : Obj, W.heap[q]? = some o ∧ o.isCells = false) : W'.heap[k]? = some (.cells cs t q) :=
  (grownBy_keeps_cells hg hr h rfl).trans h
theorem St.abides (S : St w0 W r B sl v l) (hB : w0.heap.size ≤ B) {row : Option Nat} (hg : W.grownBy W' row) (hr : ∀ q, row = some q → B ≤ q ∧ ∃ o : Obj, W.heap[q]? = some o ∧ o.isCells = false) : St w0 W' r B sl v l :=
  ⟨heap_kept S.zc hg (fun q e => (hr q e).2), heap_kept S.ec hg (fun q e => (hr q e).2), heap_kept S.pc hg (fun q e => (hr q e).2), row_kept S.row hg (fun q e => (hr q e).2), S.below.grown hg S.below.size (fun k e => Nat.le_trans hB (hr k e).1), Nat.le_trans S.size hg.size⟩
theorem Sx.abides (S : Sx w0 W r) (hB : w0.heap.size ≤ B) {row : Option Nat} (hg : W.grownBy W' row) (hr : ∀ q, row = some q → B ≤ q ∧ ∃ o : Obj, W.heap[q]? = some o ∧ o.isCells = false) : Sx w0 W' r :=
  ⟨heap_kept S.zc hg (fun q e => (hr q e).2), heap_kept S.ec hg (fun q e => (hr q e).2), S.below.grown hg S.below.size (fun k e => Nat.le_trans hB (hr k e).1)⟩
theorem St.cell (S : St w0 W r B sl v l) (hr : w0.heap.size = r) (hB : r + 3 < B) (u : Value) : St w0 (W.setCell ⟨r + 3, 0, none⟩ u) r B sl v l :=
  ⟨heap_set_ne (by omega) S.zc, heap_set_ne (by omega) S.ec, heap_set_ne (by omega) S.pc, ownsRow_setCell_below S.row hB u, S.below.setCell (by show w0.heap.size ≤ r + 3; omega) u, by rw [World.size_setCell]; exact S.size⟩
theorem Sx.cell (S : Sx w0 W r) (hr : w0.heap.size = r) (u : Value) : Sx w0 (W.setCell ⟨r + 3, 0, none⟩ u) r :=
  ⟨heap_set_ne (by omega) S.zc, heap_set_ne (by omega) S.ec, S.below.setCell (by show w0.heap.size ≤ r + 3; omega) u⟩
theorem St.slice (S : St w0 W r B sl v l) : ∃ A c, v = .slice A l.length c ∧ l.length ≤ c := by
  rcases S.row.2 with ⟨rfl, h⟩ | ⟨g, cap, cur, rfl, hb, hc, hle, _⟩
  · exact ⟨none, 0, by rw [h], by omega⟩
  · exact ⟨_, cap, rfl, hle⟩
theorem lt_heap {k : Nat} {o : Obj} (h : W.heap[k]? = some o) : k < W.heap.size := (Array.getElem?_eq_some_iff.1 h).1
theorem cell_grown {k B' n : Nat} {cs : Array Value} {t : TypeId} {q : Nat × Nat} {o : Obj} {ys : List Value} {A : Option Addr} {m c : Nat} (h : W.heap[k]? = some (.cells cs t q)) (hown : w1.ownsRow B' 9 1 v1 n ys) (hg : (W.alloc o).grownBy w1 (Value.slice A m c).ownBlock) (hne : ∀ g, (Value.slice A m c).ownBlock = some g → k ≠ g) : w1.heap[k]? = some (.cells cs t q) :=
  (hg.block k (by rw [World.size_alloc]; have := lt_heap h; omega) (fun e => hne k e.symm rfl)).trans ((Below.heap_alloc W o k (lt_heap h)).trans h)
/-- One part more. -/
theorem St.step (S : St w0 W r B sl v l) (hr : w0.heap.size = r) (hB : r + 5 < B) {o : Obj} (hown : w1.ownsRow B 9 1 v1 (l.length + 1) (encs Value.string l ++ [.string x])) (hg : (W.alloc o).grownBy w1 v.ownBlock) :
    KeepsFrom B W (w1.setCell ⟨r + 2, 0, none⟩ v1) ∧ Kept [r + 4, r + 3, r + 5] W (w1.setCell ⟨r + 2, 0, none⟩ v1) ∧ St w0 (w1.setCell ⟨r + 2, 0, none⟩ v1) r B sl v1 (l ++ [x]) := by
  have hW := S.size
  have hown0 : (W.alloc o).ownsRow B 9 1 v l.length (encs Value.string l) := S.row.kept (World.grownBy_alloc W o none) (by
    rcases S.row.2 with ⟨rfl, _⟩ | ⟨g, cap, cur, rfl, _⟩
    · exact .inl rfl
    · exact .inr (by simp [Value.ownBlock]))
  have hne : ∀ k, k < B → some k ≠ v.ownBlock := fun k hk e => by have := (row_block hown0 e.symm).1; omega
  have hk : ∀ k, k < B → w1.heap[k]? = W.heap[k]? := fun k hkB => (hg.block k (by rw [World.size_alloc]; omega) (hne k hkB)).trans (Below.heap_alloc W o k (by omega))
  have hp : w1.heap[r + 2]? = some (.cells #[v, .bool sl] 24 (0, 0)) := (hk _ (by omega)).trans S.pc
  have hset : (w1.setCell ⟨r + 2, 0, none⟩ v1).heap[r + 2]? = some (.cells #[v1, .bool sl] 24 (0, 0)) := by
    exact blk_put hp 0 v1 rfl
  refine ⟨?_, ?_, ?_, ?_, hset, ?_, ?_, ?_⟩
  · refine (((KeepsOthers.alloc W o).trans (KeepsOthers.of_grownBy hg fun j o' ej hj => ?_)).trans (KeepsOthers.setCell _ _ _)).from B
    obtain ⟨_, cur, hc⟩ := row_block hown0 ej
    rw [hc] at hj
    cases hj
    rfl
  · intro b hb
    simp only [List.mem_cons, List.not_mem_nil, or_false] at hb
    have h2 : b ≠ r + 2 ∧ b < B := by omega
    exact (Below.heap_setCell _ _ _ _ h2.1).trans (hk b h2.2)
  · exact heap_set_ne (by omega) ((hk _ (by omega)).trans S.zc)
  · exact heap_set_ne (by omega) ((hk _ (by omega)).trans S.ec)
  · have := ownsRow_setCell_below hown (a := ⟨r + 2, 0, none⟩) (by show r + 2 < B; omega) v1
    rw [List.length_append]
    have e2 : encs Value.string (l ++ [x]) = encs Value.string l ++ [.string x] := by simp [encs]
    rw [e2]
    exact this
  · refine Below.setCell (Below.grown (S.below.alloc S.below.size o) hg (by rw [World.size_alloc]; have := S.below.size; omega) (fun k e => ?_)) (by show w0.heap.size ≤ r + 2; omega) v1
    have := (row_block hown0 e).1
    omega
  · have := hg.size
    rw [World.size_alloc] at this
    rw [World.size_setCell]
    omega
end
end Go.Proofs.YthcooheghekplaaDoor.Cut
