/- How the arguments of this seat's laws are opened: slices of any elements, structs by value; what their sizes are. Plain lemmas over whatever program; no condition. -/
import Derived.Test.YthcooheghekplaaDoorWWords
import Derived.Deep.Slices
import Derived.Deep.Fields
import Derived.ChangeSame
import Derived.SizedLaws
import Derived.WalkKit
import Derived.ProofKit
namespace Go.Proofs.YthcooheghekplaaDoor.R0
open Go.ChangeShapes Go.WideShapes Go.Deep Go.RowKit Go.Proofs.YthcooheghekplaaDoorW.PrintWords
set_option linter.unusedVariables false

theorem list_of {α : Type} (R : Nat → α → Prop) : ∀ (n : Nat), (∀ i, i < n → ∃ x, R i x) → ∃ l : List α, l.length = n ∧ ∀ i x, l[i]? = some x → R i x
  | 0, _ => ⟨[], rfl, by simp⟩
  | n + 1, h => by
    obtain ⟨l, hl, hr⟩ := list_of R n (fun i hi => h i (by omega))
    obtain ⟨x, hx⟩ := h n (by omega)
    refine ⟨l ++ [x], by simp [hl], fun i y hy => ?_⟩
    by_cases hi : i < l.length
    · rw [List.getElem?_append_left hi] at hy
      exact hr i y hy
    · rw [List.getElem?_append_right (by omega)] at hy
      have h0 : i - l.length = 0 := by
        cases hk : i - l.length with
        | zero => rfl
        | succ m => rw [hk] at hy; simp at hy
      rw [h0] at hy
      obtain rfl : x = y := by simpa using hy
      obtain rfl : i = n := by omega
      exact hx

/-! ### lists of a known length -/
theorem arr_of {α : Type} {cs : Array α} {l : List α} (h : cs.toList = l) : cs = l.toArray := by rw [← h]
theorem list1 {α : Type} {l : List α} (h : l.length = 1) {x0 : α} (h0 : l[0]? = some x0) : l = [x0] := by
  match l, h with
  | [b0], _ => simp_all
theorem list2 {α : Type} {l : List α} (h : l.length = 2) {x0 x1 : α} (h0 : l[0]? = some x0) (h1 : l[1]? = some x1) : l = [x0, x1] := by
  match l, h with
  | [b0, b1], _ => simp_all
theorem list3 {α : Type} {l : List α} (h : l.length = 3) {x0 x1 x2 : α} (h0 : l[0]? = some x0) (h1 : l[1]? = some x1) (h2 : l[2]? = some x2) : l = [x0, x1, x2] := by
  match l, h with
  | [b0, b1, b2], _ => simp_all
theorem list4 {α : Type} {l : List α} (h : l.length = 4) {x0 x1 x2 x3 : α} (h0 : l[0]? = some x0) (h1 : l[1]? = some x1) (h2 : l[2]? = some x2) (h3 : l[3]? = some x3) : l = [x0, x1, x2, x3] := by
  match l, h with
  | [b0, b1, b2, b3], _ => simp_all
theorem list5 {α : Type} {l : List α} (h : l.length = 5) {x0 x1 x2 x3 x4 : α} (h0 : l[0]? = some x0) (h1 : l[1]? = some x1) (h2 : l[2]? = some x2) (h3 : l[3]? = some x3) (h4 : l[4]? = some x4) : l = [x0, x1, x2, x3, x4] := by
  match l, h with
  | [b0, b1, b2, b3, b4], _ => simp_all
theorem list6 {α : Type} {l : List α} (h : l.length = 6) {x0 x1 x2 x3 x4 x5 : α} (h0 : l[0]? = some x0) (h1 : l[1]? = some x1) (h2 : l[2]? = some x2) (h3 : l[3]? = some x3) (h4 : l[4]? = some x4) (h5 : l[5]? = some x5) : l = [x0, x1, x2, x3, x4, x5] := by
  match l, h with
  | [b0, b1, b2, b3, b4, b5], _ => simp_all
theorem list7 {α : Type} {l : List α} (h : l.length = 7) {x0 x1 x2 x3 x4 x5 x6 : α} (h0 : l[0]? = some x0) (h1 : l[1]? = some x1) (h2 : l[2]? = some x2) (h3 : l[3]? = some x3) (h4 : l[4]? = some x4) (h5 : l[5]? = some x5) (h6 : l[6]? = some x6) : l = [x0, x1, x2, x3, x4, x5, x6] := by
  match l, h with
  | [b0, b1, b2, b3, b4, b5, b6], _ => simp_all
theorem list8 {α : Type} {l : List α} (h : l.length = 8) {x0 x1 x2 x3 x4 x5 x6 x7 : α} (h0 : l[0]? = some x0) (h1 : l[1]? = some x1) (h2 : l[2]? = some x2) (h3 : l[3]? = some x3) (h4 : l[4]? = some x4) (h5 : l[5]? = some x5) (h6 : l[6]? = some x6) (h7 : l[7]? = some x7) : l = [x0, x1, x2, x3, x4, x5, x6, x7] := by
  match l, h with
  | [b0, b1, b2, b3, b4, b5, b6, b7], _ => simp_all
theorem list9 {α : Type} {l : List α} (h : l.length = 9) {x0 x1 x2 x3 x4 x5 x6 x7 x8 : α} (h0 : l[0]? = some x0) (h1 : l[1]? = some x1) (h2 : l[2]? = some x2) (h3 : l[3]? = some x3) (h4 : l[4]? = some x4) (h5 : l[5]? = some x5) (h6 : l[6]? = some x6) (h7 : l[7]? = some x7) (h8 : l[8]? = some x8) : l = [x0, x1, x2, x3, x4, x5, x6, x7, x8] := by
  match l, h with
  | [b0, b1, b2, b3, b4, b5, b6, b7, b8], _ => simp_all

section
variable {H : Type} {enc : TypeId × Value → H} {P : Program} {w : World}

/-- A slice argument: its list, its reading, its datum. -/
theorem slice_open {α : Type} (d : Kd α) (dat : α → DataW H) (ok : α → Prop) {r : Reach} {b0 : Nat} {t e : TypeId} {v : Value} {D : DataW H} {ps : List MemPlace} (ht : P.underlying t = some (.slice e)) (hC : P.cellsOf e = d.sz)
    (hel : ∀ fuel cs x, DataW.trod enc P w 0 (fun _ => true) true fuel e cs = some x → ∃ a : α, d.K w a cs ∧ x.1 = dat a ∧ ok a)
    (hv : Value.okWide P w r b0 t v) (h : DataW.Trod enc P w 0 (fun _ => true) true t v D ps) :
    ∃ (A : Option Addr) (l : List α) (cap : Nat) (spare : List (DataW H)), v = .slice A l.length cap ∧ l.length ≤ cap ∧ d.C w A l.length l ∧ ((D = .nil ∧ l = []) ∨ D = .slice (l.map dat) spare) ∧ ∀ x ∈ l, ok x := by
  obtain ⟨A, len, cap, rfl⟩ := okWide_slice ht hv
  obtain ⟨fuel, hf⟩ := h
  rcases open_slice ht hf with ⟨hcs, hx⟩ | ⟨a, len', cap', m, n, E, Pl, hcs, hb, hl, hm, hmm, hx, hi⟩
  · simp [Value.cells] at hcs
    obtain ⟨rfl, rfl, rfl⟩ := hcs
    simp only [Prod.mk.injEq] at hx
    exact ⟨none, [], 0, [], rfl, Nat.le_refl _, Kd.C_nil d w, .inl ⟨hx.1, rfl⟩, by simp⟩
  · simp [Value.cells] at hcs
    obtain ⟨rfl, rfl, rfl⟩ := hcs
    simp only [Prod.mk.injEq] at hx
    have hm' : len ≤ m := by rw [hmm]; split <;> omega
    have hlen : len ≤ 9223372036854775807 := by unfold maxLen at hm; omega
    obtain ⟨l, hll, hR⟩ := list_of (fun i (x : α) => ∃ cs, d.K w x cs ∧ (∀ j u, cs[j]? = some u → w.cell? (a.add (i * d.sz + j)) = some u) ∧ E i = dat x ∧ ok x) len (fun i hlt => by
      obtain ⟨cs', hc, htr⟩ := hi i (by omega)
      obtain ⟨x, hK, hdat, hok⟩ := hel _ _ _ htr
      obtain ⟨_, hcl, hat⟩ := World.cells?_some hc
      refine ⟨x, cs', hK, fun j u hj => ?_, hdat, hok⟩
      have hjl : j < cs'.length := (List.getElem?_eq_some_iff.1 hj).1
      rw [← hj, ← hat j (by omega), hC, Go.Deep.add_add])
    subst hll
    refine ⟨some a, l, cap, (List.range (m - l.length)).map fun j => E (l.length + j), rfl, hl, ⟨rfl, hlen, fun _ => ⟨a, rfl, fun j p hp => ?_⟩⟩, .inr ?_, fun x hx' => ?_⟩
    · obtain ⟨cs, hK, hcell, _⟩ := hR j p hp
      exact ⟨cs, d.K_len hK, hK, hcell⟩
    · rw [hx.1]
      congr 1
      apply List.ext_getElem?
      intro i
      by_cases hlt : i < l.length
      · obtain ⟨_, _, _, hE, _⟩ := hR i l[i] (List.getElem?_eq_getElem hlt)
        simp [List.getElem?_map, List.getElem?_range hlt, List.getElem?_eq_getElem hlt, hE]
      · rw [List.getElem?_eq_none (by simp; omega), List.getElem?_eq_none (by simp; omega)]
    · obtain ⟨i, hlt, rfl⟩ := List.mem_iff_getElem.1 hx'
      obtain ⟨_, _, _, _, hok⟩ := hR i _ (List.getElem?_eq_getElem hlt)
      exact hok

/-- A struct's cells, field by field, where each field is one cell. -/
theorem struct_fields {t : TypeId} {fs : Array Field} {fuel : Nat} {cs : List Value} {x : DataW H × List MemPlace} {base : Nat} {sp : Nat → Bool} {held : Bool} (ht : P.underlying t = some (.struct fs)) (hone : oneCellFields P fs = true) (hC : P.cellsOf t = fs.size)
    (h : DataW.trod enc P w base sp held fuel t cs = some x) : ∃ (ys : List (DataW H × List MemPlace)) (n : Nat), x.1 = .agg (ys.map (·.1)) ∧ ys.length = fs.size ∧ cs.length = fs.size ∧
      ∀ (j : Nat) (f : Field), fs[j]? = some f → ∃ (v : Value) (y : DataW H × List MemPlace), cs[j]? = some v ∧ ys[j]? = some y ∧ DataW.trod enc P w base sp held n f.type [v] = some y := by
  obtain ⟨ys, n', _, hy, hlen, hyl, hf⟩ := DataW.trod_struct ht h
  refine ⟨ys, n', by rw [hy], hyl, by omega, fun j f hj => ?_⟩
  obtain ⟨ho, hk⟩ := hone_of hone j f hj
  have hjl : j < fs.size := (Array.getElem?_eq_some_iff.1 hj).1
  have hv : cs[j]? = some (cs[j]'(by omega)) := List.getElem?_eq_getElem (by omega)
  have h1 := hf j f hj
  rw [ho, hk] at h1
  have hone' : (cs.drop j).take 1 = [cs[j]'(by omega)] := by
    rw [List.drop_eq_getElem_cons (by omega)]
    rfl
  rw [hone'] at h1
  have hys : ys[j]? = some (ys[j]'(by omega)) := List.getElem?_eq_getElem (by omega)
  exact ⟨_, _, hv, hys, h1.trans hys⟩

/-- A field that is a number, a bool, a text. -/
theorem int_cell {t : TypeId} {k : IntKind} {fuel : Nat} {v : Value} {y : DataW H × List MemPlace} {base : Nat} {sp : Nat → Bool} {held : Bool} (ht : P.underlying t = some (.int k)) (h : DataW.trod enc P w base sp held fuel t [v] = some y) : ∃ a : Int, v = .int k a ∧ y.1 = .lit (.int k a) ∧ (Lit.int k a).wf = true := by
  obtain ⟨n, hc, hy, hw⟩ := DataW.trod_int ht h
  exact ⟨n, by simpa using hc, by rw [hy], hw⟩
theorem bool_cell {t : TypeId} {fuel : Nat} {v : Value} {y : DataW H × List MemPlace} {base : Nat} {sp : Nat → Bool} {held : Bool} (ht : P.underlying t = some .bool) (h : DataW.trod enc P w base sp held fuel t [v] = some y) : ∃ a : Bool, v = .bool a ∧ y.1 = .lit (.bool a) := by
  obtain ⟨n, hc, hy⟩ := DataW.trod_bool ht h
  exact ⟨n, by simpa using hc, by rw [hy]⟩
theorem string_cell {t : TypeId} {fuel : Nat} {v : Value} {y : DataW H × List MemPlace} {base : Nat} {sp : Nat → Bool} {held : Bool} (ht : P.underlying t = some .string) (h : DataW.trod enc P w base sp held fuel t [v] = some y) : ∃ a : ByteArray, v = .string a ∧ y.1 = .lit (.string a.data.toList) ∧ a.size ≤ maxLen := by
  obtain ⟨n, hc, hy, hw⟩ := DataW.trod_string ht h
  exact ⟨n, by simpa using hc, by rw [hy], hw⟩

/-! ### sizes -/
theorem weights_elems {t e : TypeId} {elems spare : List (DataW H)} (hu : P.underlying t = some (.slice e)) {x : DataW H} (hx : x ∈ elems) {n : Nat} (hn : n ∈ x.weights P e) : n ∈ (DataW.slice elems spare).weights P t := by
  simp only [DataW.weights, hu]
  refine List.mem_cons_of_mem _ (List.mem_append_left _ ?_)
  induction elems with
  | nil => cases hx
  | cons y r ih =>
    simp only [DataW.weightsAll, List.mem_append]
    rcases List.mem_cons.1 hx with rfl | h
    · exact .inl hn
    · exact .inr (ih h)
/-- What stands in a slice argument is within the reach, too. -/
theorem sized_elem {ts : List TypeId} {ds : List (DataW H)} (h : (DataW.weightsEach P ts ds).all (· ≤ reachBytes) = true) {j : Nat} {t e : TypeId} {elems spare : List (DataW H)} (ht : ts[j]? = some t) (hd : ds[j]? = some (.slice elems spare)) (hu : P.underlying t = some (.slice e)) {x : DataW H} (hx : x ∈ elems) :
    ∀ n ∈ x.weights P e, n ≤ 140737488351232 := fun n hn => by
  have := List.all_eq_true.1 h _ (DataW.weights_mem_each ht hd n (weights_elems hu hx hn))
  exact of_decide_eq_true this
theorem sized_len {ts : List TypeId} {ds : List (DataW H)} (h : (DataW.weightsEach P ts ds).all (· ≤ reachBytes) = true) {j : Nat} {t e : TypeId} {elems spare : List (DataW H)} (ht : ts[j]? = some t) (hd : ds[j]? = some (.slice elems spare)) (hu : P.underlying t = some (.slice e)) : elems.length * P.bytesOf e ≤ 140737488351232 := by
  have := sized_slice h ht hd hu
  simp only [reachBytes] at this
  exact Nat.le_trans (Nat.mul_le_mul_right _ (by omega)) this
theorem sized_arg {ts : List TypeId} {ds : List (DataW H)} (h : (DataW.weightsEach P ts ds).all (· ≤ reachBytes) = true) {j : Nat} {t : TypeId} {x : DataW H} (ht : ts[j]? = some t) (hd : ds[j]? = some x) : ∀ n ∈ x.weights P t, n ≤ 140737488351232 := fun n hn => by
  have := List.all_eq_true.1 h _ (DataW.weights_mem_each ht hd n hn)
  exact of_decide_eq_true this
end
end Go.Proofs.YthcooheghekplaaDoor.R0
