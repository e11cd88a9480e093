/- Memory as a list of blocks: what a call holds, how each operation that reads or writes turns it. No program in sight but its table of types. -/
import Derived.Test.YtgjajdejjiiocaaWGuard
import Derived.Test.YtgjajdejjiiocaaWNEv
import Derived.Test.YtgjajdejjiiocaaWMore
import Derived.Lib.ConvBytes
namespace Go.Proofs.Ytgjajdejjiiocaa.Sep
open Go.RowKit Go.Proofs.YtgjajdejjiiocaaW.PrintWords Go.Proofs.YtgjajdejjiiocaaW.PrintLast
set_option linter.unusedVariables false
set_option linter.unusedSimpArgs false

/-- A block of cells. -/
@[reducible] def Cl (cs : List Value) (t : TypeId) (fz : Nat × Nat := (0, 0)) : Obj := .cells cs.toArray t fz
abbrev Frag := List (Nat × Obj)
/-- Since w0 nothing old has turned; these blocks are the call's own, and hold this. -/
structure Holds (w0 w : World) (H : Frag) : Prop where
  below : Below w0.heap.size w0 w
  has : ∀ x, x ∈ H → w.heap[x.1]? = some x.2
  low : ∀ x, x ∈ H → w0.heap.size ≤ x.1
  nodup : (H.map Prod.fst).Nodup
namespace Holds
variable {w0 w w1 : World} {H H' : Frag}
theorem start (w : World) : Holds w w [] := ⟨Below.refl _ _, by simp, by simp, by simp⟩
theorem lt (h : Holds w0 w H) {x : Nat × Obj} (hx : x ∈ H) : x.1 < w.heap.size := (Array.getElem?_eq_some_iff.1 (h.has x hx)).1
theorem block_lt (h : Holds w0 w H) {b : Nat} {o : Obj} (hx : (b, o) ∈ H) : b < w.heap.size := h.lt hx
theorem call (h : Holds w0 w H) (hb : Below w.heap.size w w1) : Holds w0 w1 H :=
  ⟨h.below.trans (hb.mono h.below.size), fun x hx => (hb.block x.1 (h.lt hx)).trans (h.has x hx), h.low, h.nodup⟩
theorem drew (h : Holds w0 w H) : Holds w0 w.drew H := ⟨h.below.drew, h.has, h.low, h.nodup⟩
theorem drewN (h : Holds w0 w H) (n : Nat) : Holds w0 (w.drewN n) H := ⟨pw_below_drewN h.below n, h.has, h.low, h.nodup⟩
/-- Draws apart, the same world. -/
theorem any (h : Holds w0 w H) (h1 : w1.heap = w.heap) (h2 : w1.os = w.os) (h3 : w1.tape = w.tape) (h4 : w1.output = w.output) : Holds w0 w1 H :=
  ⟨⟨h2.trans h.below.os, h3.trans h.below.tape, h4.trans h.below.output, by rw [h1]; exact h.below.size, fun k hk => by rw [h1]; exact h.below.block k hk⟩, fun x hx => by rw [h1]; exact h.has x hx, h.low, h.nodup⟩
theorem call1 {w2 : World} (h : Holds w0 w H) (hb : Below w1.heap.size w1 w2) (h1 : w1.heap = w.heap) (h2 : w1.os = w.os) (h3 : w1.tape = w.tape) (h4 : w1.output = w.output) : Holds w0 w2 H := (h.any h1 h2 h3 h4).call hb
theorem alloc (h : Holds w0 w H) (o : Obj) : Holds w0 (w.alloc o) ((w.heap.size, o) :: H) := by
  refine ⟨h.below.alloc h.below.size o, ?_, ?_, ?_⟩
  · intro x hx
    rcases List.mem_cons.1 hx with rfl | hx
    · show (w.heap.push o)[w.heap.size]? = _
      simp
    · rw [Below.heap_alloc w o x.1 (h.lt hx)]
      exact h.has x hx
  · intro x hx
    rcases List.mem_cons.1 hx with rfl | hx
    · exact h.below.size
    · exact h.low x hx
  · simp only [List.map_cons, List.nodup_cons]
    refine ⟨fun hm => ?_, h.nodup⟩
    obtain ⟨x, hx, he⟩ := List.mem_map.1 hm
    have := h.lt hx
    omega
/-- A block is changed. -/
theorem put {b : Nat} {o : Obj} (h : Holds w0 w ((b, o) :: H)) (o' : Obj) : Holds w0 { w with heap := w.heap.setIfInBounds b o' } ((b, o') :: H) := by
  have hlt : b < w.heap.size := h.lt (x := (b, o)) List.mem_cons_self
  have hlow : w0.heap.size ≤ b := h.low (b, o) List.mem_cons_self
  have hnd := h.nodup
  simp only [List.map_cons, List.nodup_cons] at hnd
  refine ⟨?_, ?_, ?_, ?_⟩
  · refine ⟨h.below.os, h.below.tape, h.below.output, by simpa using h.below.size, fun k hk => ?_⟩
    have : b ≠ k := by omega
    simp only [Array.getElem?_setIfInBounds, this, if_false]
    exact h.below.block k hk
  · intro x hx
    rcases List.mem_cons.1 hx with rfl | hx
    · simp [hlt]
    · have hne : b ≠ x.1 := fun e => hnd.1 (e ▸ List.mem_map_of_mem hx)
      simp only [Array.getElem?_setIfInBounds, hne, if_false]
      exact h.has x (List.mem_cons_of_mem _ hx)
  · intro x hx
    rcases List.mem_cons.1 hx with rfl | hx
    · exact hlow
    · exact h.low x (List.mem_cons_of_mem _ hx)
  · simpa using hnd
theorem perm (h : Holds w0 w H) (hp : List.Perm H H') : Holds w0 w H' :=
  ⟨h.below, fun x hx => h.has x (hp.mem_iff.2 hx), fun x hx => h.low x (hp.mem_iff.2 hx), (hp.map _).nodup_iff.1 h.nodup⟩
theorem perm_front : ∀ (H : Frag) (k : Nat) (hk : k < H.length), List.Perm H (H[k] :: H.eraseIdx k)
  | x :: H, 0, _ => by simp
  | x :: H, k + 1, hk => by
    have := perm_front H k (by simpa using hk)
    simp only [List.getElem_cons_succ, List.eraseIdx_cons_succ]
    exact (this.cons x).trans (List.Perm.swap _ _ _)
/-- Number k first. -/
theorem front (h : Holds w0 w H) (k : Nat) (hk : k < H.length) : Holds w0 w (H[k] :: H.eraseIdx k) :=
  h.perm (perm_front H k hk)
/-- Block b holds o in the first list, o' in the second; else they are one. -/
inductive At (b : Nat) (o o' : Obj) : Frag → Frag → Prop where
  | here {H : Frag} : At b o o' ((b, o) :: H) ((b, o') :: H)
  | there {x : Nat × Obj} {H H' : Frag} (h : At b o o' H H') : At b o o' (x :: H) (x :: H')
theorem At.perm {b : Nat} {o o' : Obj} {H H' : Frag} (h : At b o o' H H') : ∃ R, List.Perm H ((b, o) :: R) ∧ List.Perm H' ((b, o') :: R) := by
  induction h with
  | here => exact ⟨_, List.Perm.refl _, List.Perm.refl _⟩
  | there h ih =>
    obtain ⟨R, h1, h2⟩ := ih
    exact ⟨_ :: R, (h1.cons _).trans (List.Perm.swap _ _ _), (h2.cons _).trans (List.Perm.swap _ _ _)⟩
theorem At.mem {b : Nat} {o o' : Obj} {H H' : Frag} (h : At b o o' H H') : (b, o) ∈ H := by
  obtain ⟨R, h1, _⟩ := h.perm
  exact h1.mem_iff.2 List.mem_cons_self
theorem repl {b : Nat} {o o' : Obj} (h : Holds w0 w H) (ha : At b o o' H H') : Holds w0 { w with heap := w.heap.setIfInBounds b o' } H' := by
  obtain ⟨R, h1, h2⟩ := ha.perm
  exact ((h.perm h1).put o').perm h2.symm
/-- Less. -/
theorem sub (h : Holds w0 w H) (hs : List.Sublist H' H) : Holds w0 w H' :=
  ⟨h.below, fun x hx => h.has x (hs.subset hx), fun x hx => h.low x (hs.subset hx), (hs.map _).nodup h.nodup⟩
theorem tail {x : Nat × Obj} (h : Holds w0 w (x :: H)) : Holds w0 w H := h.sub (List.sublist_cons_self _ _)
theorem right (h : Holds w0 w (H' ++ H)) : Holds w0 w H := h.sub (List.sublist_append_right _ _)
theorem left (h : Holds w0 w (H ++ H')) : Holds w0 w H := h.sub (List.sublist_append_left _ _)
theorem cell (h : Holds w0 w H) {b : Nat} {cs : List Value} {t : TypeId} {fz : Nat × Nat} (hm : (b, Cl cs t fz) ∈ H) {i : Nat} {v : Value} (hv : cs[i]? = some v) : w.cell? ⟨b, i, none⟩ = some v := by
  have := h.has _ hm
  simp only at this
  simp [World.cell?, this, hv]
theorem blk (h : Holds w0 w H) {b : Nat} {cs : List Value} {t : TypeId} {fz : Nat × Nat} (hm : (b, Cl cs t fz) ∈ H) : w.heap[b]? = some (.cells cs.toArray t fz) := h.has _ hm
theorem frozen (h : Holds w0 w H) {b : Nat} {cs : List Value} {t : TypeId} (hm : (b, Cl cs t) ∈ H) (i : Nat) : w.frozen? ⟨b, i, none⟩ = false := by
  have := h.has _ hm
  simp only at this
  simp [World.frozen?, this]
theorem setCell_eq {b i : Nat} {cs : List Value} {t : TypeId} {fz : Nat × Nat} {v : Value} (hb : w.heap[b]? = some (Cl cs t fz)) : w.setCell ⟨b, i, none⟩ v = { w with heap := w.heap.setIfInBounds b (Cl (cs.set i v) t fz) } := by
  unfold World.setCell
  congr 1
  apply Array.ext_getElem?
  intro j
  simp only [Array.getElem?_modify, Array.getElem?_setIfInBounds]
  by_cases hj : b = j
  · subst hj
    obtain ⟨hlt, he⟩ := Array.getElem?_eq_some_iff.1 hb
    simp [hlt, he]
  · simp [hj]
theorem set {b : Nat} {cs : List Value} {t : TypeId} {fz : Nat × Nat} (h : Holds w0 w ((b, Cl cs t fz) :: H)) (i : Nat) (v : Value) : Holds w0 (w.setCell ⟨b, i, none⟩ v) ((b, Cl (cs.set i v) t fz) :: H) := by
  rw [setCell_eq (h.has _ List.mem_cons_self)]
  exact h.put _
end Holds

/-- Block x stands somewhere; R: the others. -/
inductive Front (x : Nat × Obj) : Frag → Frag → Prop where
  | here {H : Frag} : Front x (x :: H) H
  | there {y : Nat × Obj} {H R : Frag} (h : Front x H R) : Front x (y :: H) (y :: R)
theorem Front.perm {x : Nat × Obj} {H R : Frag} (h : Front x H R) : List.Perm H (x :: R) := by
  induction h with
  | here => exact List.Perm.refl _
  | there h ih => exact (ih.cons _).trans (List.Perm.swap _ _ _)
theorem front0 {w0 w : World} {x : Nat × Obj} {H R : Frag} (h : Holds w0 w H) (hf : Front x H R) : Holds w0 w (x :: R) := h.perm hf.perm
/-! ### Loads and stores, run -/
def aggD : TypeDesc → Bool | .struct _ | .array _ _ => true | _ => false
def oneB (P : Program) (t : TypeId) : Bool := match P.underlying t with | some u => !aggD u | none => false
def manyB (P : Program) (t : TypeId) (n : Nat) : Bool := (match P.underlying t with | some u => aggD u | none => false) && (P.info? t).map (·.size) == some n
def aggB (P : Program) (t : TypeId) : Bool := match P.underlying t with | some u => aggD u | none => false
theorem manyB_of {P : Program} {t : TypeId} {n : Nat} (h : aggB P t = true) (hn : (P.info? t).map (·.size) = some n) : manyB P t n = true := by
  unfold manyB
  unfold aggB at h
  rw [h, hn]
  simp
section
variable {P : Program} {w : World}
theorem run_isAgg_one {t : TypeId} (h : oneB P t = true) : (isAgg t).run P w = .ok false w := by
  unfold oneB at h
  cases hu : P.underlying t with
  | none => simp [hu] at h
  | some u =>
    simp only [hu, Bool.not_eq_true'] at h
    cases u <;> simp [aggD] at h <;> simp [isAgg, run_underlying hu]
theorem run_isAgg_many {t : TypeId} {n : Nat} (h : manyB P t n = true) : (isAgg t).run P w = .ok true w := by
  unfold manyB at h
  cases hu : P.underlying t with
  | none => simp [hu] at h
  | some u =>
    simp only [hu, Bool.and_eq_true] at h
    cases u <;> simp [aggD] at h <;> simp [isAgg, run_underlying hu]
theorem size_many {t : TypeId} {n : Nat} (h : manyB P t n = true) : (P.info? t).map (·.size) = some n := by
  unfold manyB at h
  simp only [Bool.and_eq_true, beq_iff_eq] at h
  exact h.2
theorem run_sizeOf_many {t : TypeId} {n : Nat} (h : manyB P t n = true) : (sizeOf t).run P w = .ok n w := by
  obtain ⟨i, hi, hn⟩ := Option.map_eq_some_iff.1 (size_many h)
  simp [sizeOf, typeInfo, hi, hn]
theorem run_loadVar_one {t : TypeId} {ad : Addr} {v : Value} (h : oneB P t = true) (hc : w.cell? ad = some v) : (loadVar t ad).run P w = .ok v w := by
  unfold loadVar
  simp only [Sem.run_bind, run_isAgg_one h, Result.andThen_ok, Bool.false_eq_true, if_false]
  simp [hc]
theorem run_loadVar_many {t : TypeId} {n : Nat} {b i : Nat} {cs : List Value} {ty : TypeId} {fz : Nat × Nat} (h : manyB P t n = true) (hb : w.heap[b]? = some (Cl cs ty fz)) (vs : List Value) (hv : (cs.drop i).take n = vs) (hl : vs.length = n) :
    (loadVar t ⟨b, i, none⟩).run P w = .ok (.agg vs.toArray) w := by
  unfold loadVar
  have hload : (loadCells ⟨b, i, none⟩ n).run P w = .ok vs.toArray w := by
    have := run_loadCells_list (P := P) w ⟨b, i, none⟩ vs (fun j v hj => by
      have hjn : j < n := by
        rw [← hl]
        exact (List.getElem?_eq_some_iff.1 hj).1
      have hcv : cs[i + j]? = some v := by
        rw [← hv, List.getElem?_take, if_pos hjn, List.getElem?_drop] at hj
        exact hj
      have hadd : (⟨b, i, none⟩ : Addr).add j = ⟨b, i + j, none⟩ := by unfold Addr.add; split <;> simp_all
      rw [hadd]
      simp [World.cell?, hb, hcv])
    rw [hl] at this
    exact this
  simp only [Sem.run_bind, run_isAgg_many h, Result.andThen_ok, if_true, run_sizeOf_many h, hload, Sem.run_pure]
/-- The cells of a block, some of them turned. -/
def splice (cs : List Value) (i : Nat) : List Value → List Value
  | [] => cs
  | v :: vs => splice (cs.set i v) (i + 1) vs
theorem splice_length (cs : List Value) (i : Nat) (vs : List Value) : (splice cs i vs).length = cs.length := by
  induction vs generalizing cs i with
  | nil => rfl
  | cons v vs ih => simp [splice, ih]
theorem run_storeCells (b : Nat) (ty : TypeId) : ∀ (vs : List Value) (w : World) (cs : List Value) (i k : Nat), w.heap[b]? = some (Cl cs ty) → (∀ v, v ∈ vs → v.oneCell' = true) → i + k + vs.length ≤ cs.length →
    (storeCells ⟨b, i, none⟩ vs k).run P w = .ok () { w with heap := w.heap.setIfInBounds b (Cl (splice cs (i + k) vs) ty) } := by
  intro vs
  induction vs with
  | nil =>
    intro w cs i k hb h1 hl
    have : ({ w with heap := w.heap.setIfInBounds b (Cl (splice cs (i + k) []) ty) } : World) = w := by
      have he : w.heap.setIfInBounds b (Cl cs ty) = w.heap := by
        apply Array.ext_getElem?
        intro j
        simp only [Array.getElem?_setIfInBounds]
        by_cases hj : b = j
        · subst hj
          obtain ⟨hlt, he⟩ := Array.getElem?_eq_some_iff.1 hb
          simp [hlt, he]
        · simp [hj]
      simp only [splice]
      rw [he]
    rw [this]
    simp [storeCells]
  | cons v vs ih =>
    intro w cs i k hb h1 hl
    simp only [List.length_cons] at hl
    have hadd : (⟨b, i, none⟩ : Addr).add k = ⟨b, i + k, none⟩ := by unfold Addr.add; split <;> simp_all
    have hik : i + k < cs.length := by omega
    have hc : w.cell? ⟨b, i + k, none⟩ = some cs[i + k] := by simp [World.cell?, hb, hik]
    have hf : w.frozen? ⟨b, i + k, none⟩ = false := by simp [World.frozen?, hb]
    have hblt : b < w.heap.size := (Array.getElem?_eq_some_iff.1 hb).1
    have ih' := ih { w with heap := w.heap.setIfInBounds b (Cl (cs.set (i + k) v) ty) } (cs.set (i + k) v) i (k + 1) (by simp [hblt]) (fun u hu => h1 u (List.mem_cons_of_mem _ hu)) (by simp; omega)
    simp only [storeCells, hadd, Sem.run_bind, run_store P w _ v _ (h1 v List.mem_cons_self)]
    simp only [hc, hf, Bool.false_eq_true, if_false, Result.andThen_ok]
    rw [Holds.setCell_eq hb, ih']
    simp [splice, Nat.add_assoc]
theorem run_storeVar_blk {t : TypeId} {n b i : Nat} {cs : List Value} {ty : TypeId} {v : Value} (hn : (P.info? t).map (·.size) = some n) (hb : w.heap[b]? = some (Cl cs ty)) (vs : List Value) (hvs : v.cells = vs.toArray) (hl : vs.length = n) (h1 : ∀ u, u ∈ vs → u.oneCell' = true) (hi : i + n ≤ cs.length) :
    (storeVar t ⟨b, i, none⟩ v).run P w = .ok () { w with heap := w.heap.setIfInBounds b (Cl (splice cs i vs) ty) } := by
  obtain ⟨inf, hinf, hsz⟩ := Option.map_eq_some_iff.1 hn
  have := run_storeCells (P := P) b ty vs w cs i 0 hb h1 (by omega)
  simp only [Nat.add_zero] at this
  unfold storeVar
  simp [sizeOf, typeInfo, hinf, hsz, hvs, hl, this]
end

/-! ### The end of a call: its results -/
section
variable {P : Program} {w0 w : World} {H : Frag} {tmps : Array Value}
theorem vcell (HH : Holds w0 w H) {p : Tmp} {ty : TypeId} {rs : List ResultVar} {vs : List Value} {b : Nat} {cs : List Value} {t : TypeId} {fz : Nat × Nat} (hp : tmps.getD p undef = .pointer (some ⟨b, 0, none⟩)) (hm : (b, Cl cs t fz) ∈ H) (hag : aggB P ty = true) (hi : (P.info? ty).map (·.size) = some cs.length) (hvs : Vals P tmps w rs vs) : Vals P tmps w (.cell p ty :: rs) (.agg cs.toArray :: vs) := by
  unfold aggB at hag
  cases hu : P.underlying ty with
  | none => simp [hu] at hag
  | some d =>
    refine .cell b t cs.toArray fz d hp (HH.blk hm) hu ?_ (by simpa using hi) hvs
    simp only [hu] at hag
    cases d <;> simp [aggD] at hag <;> rfl
theorem end_list {fn : Func} (rs : List ResultVar) {vs : List Value} {a : Act} {R : Ending → World → Prop} (hres : fn.results = rs.toArray) (hd : a.defers = []) (hvs : Vals P a.tmps w rs vs) (hl : vs.length ≠ 1) (hR : R (.returned (.tuple vs.toArray)) w) : bodyPost P fn R .ret a w :=
  bodyPost_ret (results_list hres hl hvs) hd hR
theorem end_one {fn : Func} (r : ResultVar) {v : Value} {a : Act} {R : Ending → World → Prop} (hres : fn.results = #[r]) (hd : a.defers = []) (hvs : Vals P a.tmps w [r] [v]) (hR : R (.returned v) w) : bodyPost P fn R .ret a w :=
  bodyPost_ret (results_single hres hvs) hd hR
end
/-! ### The operations, with what is held -/
section
variable {P : Program} {ops : Array Oper} {Q : Exit → Act → World → Prop} {rest : List Oper} {o : Oper} {a : Act} {W w0 : World} {H : Frag}
theorem wpList_value {w1 : World} {v : Value} (hw : Region.wanted o (yielded ops a.tmps) = true) (hr : (execOp a.eval o).run P W = .ok (.value v) w1) (k : wpList P ops Q rest (a.put o.dst v) w1) : wpList P ops Q (o :: rest) a W :=
  wpList_step fun K hK => by
    rw [if_pos hw]
    unfold Oper.wp
    rw [hr]
    exact hK _ _ k
theorem wpList_none {w1 : World} (hw : Region.wanted o (yielded ops a.tmps) = true) (hr : (execOp a.eval o).run P W = .ok .skip w1) (k : wpList P ops Q rest (a.put o.dst undef) w1) : wpList P ops Q (o :: rest) a W :=
  wpList_step fun K hK => by
    rw [if_pos hw]
    unfold Oper.wp
    rw [hr]
    exact hK _ _ k
/-- A load of one cell, run. -/
theorem run_load1 {t : TypeId} {x : Operand} {ad : Addr} {v : Value} (hop : o.op = .load t x) (ht : oneB P t = true) (hx : a.eval x = .pointer (some ad)) (hc : W.cell? ad = some v) : (execOp a.eval o).run P W = .ok (.value v) W := by
  unfold execOp
  simp [hop, hx, Instr.loadAt, Instr.sureAddr, run_loadVar_one ht hc]
theorem run_loadN {t : TypeId} {x : Operand} {n b i : Nat} {cs vs : List Value} {ty : TypeId} {fz : Nat × Nat} (hop : o.op = .load t x) (ht : manyB P t n = true) (hx : a.eval x = .pointer (some ⟨b, i, none⟩)) (hb : W.heap[b]? = some (Cl cs ty fz)) (hv : (cs.drop i).take n = vs) (hl : vs.length = n) : (execOp a.eval o).run P W = .ok (.value (.agg vs.toArray)) W := by
  unfold execOp
  simp [hop, hx, Instr.loadAt, Instr.sureAddr, run_loadVar_many ht hb vs hv hl]
theorem run_box {t : TypeId} {x : Operand} {cs : List Value} (hop : o.op = .box t x) (hx : (a.eval x).cells = cs.toArray) : (execOp a.eval o).run P W = .ok (.value (.pointer (some ⟨W.heap.size, 0, none⟩))) (W.alloc (Cl cs t)) := by
  unfold execOp
  simp [hop, Instr.box, newVar, newRow, hx]
theorem run_alloc {t : TypeId} {z : Value} {cs : List Value} (hop : o.op = .alloc t) (hz : (zeroValue t).run P W = .ok z W) (hx : z.cells = cs.toArray) : (execOp a.eval o).run P W = .ok (.value (.pointer (some ⟨W.heap.size, 0, none⟩))) (W.alloc (Cl cs t)) := by
  unfold execOp
  simp [hop, Instr.alloc, hz, newVar, newRow, hx]
theorem run_storeN {t : TypeId} {x y : Operand} {n b i : Nat} {cs vs : List Value} {ty : TypeId} (hop : o.op = .store t x y) (hn : (P.info? t).map (·.size) = some n) (hx : a.eval x = .pointer (some ⟨b, i, none⟩)) (hb : W.heap[b]? = some (Cl cs ty)) (hy : (a.eval y).cells = vs.toArray) (hl : vs.length = n) (h1 : ∀ u, u ∈ vs → u.oneCell' = true) (hi : i + n ≤ cs.length) :
    (execOp a.eval o).run P W = .ok .skip { W with heap := W.heap.setIfInBounds b (Cl (splice cs i vs) ty) } := by
  unfold execOp
  simp [hop, hx, Instr.storeAt, Instr.sureAddr, run_storeVar_blk hn hb vs hy hl h1 hi]

section
variable {d : Option Tmp} {tp : TypeId} {ps : String} {af : Array Edge} {gd : Option (Nat × Bool)}
theorem load1_ (HH : Holds w0 W H) {t : TypeId} {x : Operand} {b i : Nat} {cs : List Value} {ty : TypeId} {fz : Nat × Nat} {v : Value} (ht : oneB P t = true) (hx : a.eval x = .pointer (some ⟨b, i, none⟩)) (hw : Region.wanted ⟨d, .load t x, tp, ps, af, gd⟩ (yielded ops a.tmps) = true)
    (hm : (b, Cl cs ty fz) ∈ H) (hv : cs[i]? = some v) (k : wpList P ops Q rest (a.put d v) W) : wpList P ops Q (⟨d, .load t x, tp, ps, af, gd⟩ :: rest) a W :=
  wpList_value hw (run_load1 rfl ht hx (HH.cell hm hv)) k
theorem loadN_ (HH : Holds w0 W H) {t : TypeId} {x : Operand} {n b i : Nat} {cs vs : List Value} {ty : TypeId} {fz : Nat × Nat} (ht : aggB P t = true) (hn : (P.info? t).map (·.size) = some n) (hx : a.eval x = .pointer (some ⟨b, i, none⟩)) (hw : Region.wanted ⟨d, .load t x, tp, ps, af, gd⟩ (yielded ops a.tmps) = true)
    (hm : (b, Cl cs ty fz) ∈ H) (hv : (cs.drop i).take n = vs) (hl : vs.length = n) (k : wpList P ops Q rest (a.put d (.agg vs.toArray)) W) : wpList P ops Q (⟨d, .load t x, tp, ps, af, gd⟩ :: rest) a W :=
  wpList_value hw (run_loadN rfl (manyB_of ht hn) hx (HH.has _ hm) hv hl) k
theorem box_ (HH : Holds w0 W H) {t : TypeId} {x : Operand} {cs : List Value} (hw : Region.wanted ⟨d, .box t x, tp, ps, af, gd⟩ (yielded ops a.tmps) = true) {v : Value} (hev : a.eval x = v) (hy : v.cells = cs.toArray)
    (k : ∀ b w1, Holds w0 w1 ((b, Cl cs t) :: H) → wpList P ops Q rest (a.put d (.pointer (some ⟨b, 0, none⟩))) w1) : wpList P ops Q (⟨d, .box t x, tp, ps, af, gd⟩ :: rest) a W :=
  wpList_value hw (run_box rfl (hev ▸ hy)) (k _ _ (HH.alloc _))
theorem alloc_ (HH : Holds w0 W H) {t : TypeId} {z : Value} {cs : List Value} (hw : Region.wanted ⟨d, .alloc t, tp, ps, af, gd⟩ (yielded ops a.tmps) = true) (hz : (P.info? t).bind (·.zero) = some z) (hx : z.cells = cs.toArray)
    (k : ∀ b w1, Holds w0 w1 ((b, Cl cs t) :: H) → wpList P ops Q rest (a.put d (.pointer (some ⟨b, 0, none⟩))) w1) : wpList P ops Q (⟨d, .alloc t, tp, ps, af, gd⟩ :: rest) a W := by
  refine wpList_value hw (run_alloc rfl ?_ hx) (k _ _ (HH.alloc _))
  obtain ⟨i, hi, hzz⟩ := Option.bind_eq_some_iff.1 hz
  simp [zeroValue, typeInfo, hi, hzz]
/-- A store, of one cell or of several, into a block that is held. -/
theorem store_ (HH : Holds w0 W H) {t : TypeId} {x y : Operand} {n b i : Nat} {cs vs : List Value} {ty : TypeId} {H' : Frag} (hw : Region.wanted ⟨none, .store t x y, tp, ps, af, gd⟩ (yielded ops a.tmps) = true) (hx : a.eval x = .pointer (some ⟨b, i, none⟩))
    {v : Value} (hev : a.eval y = v) (hy : v.cells = vs.toArray) (hn : (P.info? t).map (·.size) = some n) (hm : Holds.At b (Cl cs ty) (Cl (splice cs i vs) ty) H H') (hl : vs.length = n) (h1 : ∀ u, u ∈ vs → u.oneCell' = true) (hi : i + n ≤ cs.length)
    (k : ∀ w1, Holds w0 w1 H' → wpList P ops Q rest a w1) : wpList P ops Q (⟨none, .store t x y, tp, ps, af, gd⟩ :: rest) a W := by
  subst hev
  exact wpList_none hw (run_storeN rfl hn hx (HH.has _ hm.mem) hy hl h1 hi) (k _ (HH.repl hm))
end
end
end Go.Proofs.Ytgjajdejjiiocaa.Sep
