/- Memory of tables of open files: the program's (types 52, 44), the document's (types 58, 61). -/
import Derived.Test.YtgjajdejjiiocaaS0
import Derived.Test.YtgjajdejjiiocaaQ1
namespace Go.Proofs.Ytgjajdejjiiocaa.Q
open Go.RowKit Go.Proofs.YtgjajdejjiiocaaW.PrintWords Go.Proofs.YtgjajdejjiiocaaW.PrintLast Go.Proofs.Ytgjajdejjiiocaa.Sep
set_option linter.unusedVariables false
set_option linter.unusedSimpArgs false
/-- Below block B nothing has turned, nor any block of cells whose type X leaves out. -/
structure Only (B : Nat) (X : TypeId → Bool) (w w' : World) : Prop where
  below : Below B w w'
  block : ∀ (b : Nat) (cs : Array Value) (ty : TypeId) (fz : Nat × Nat), X ty = false → w.heap[b]? = some (Obj.cells cs ty fz) → w'.heap[b]? = some (Obj.cells cs ty fz)
namespace Only
variable {B : Nat} {X : TypeId → Bool} {w w' w'' : World}
theorem refl (B : Nat) (X : TypeId → Bool) (w : World) : Only B X w w := ⟨Below.refl _ _, fun _ _ _ _ _ h => h⟩
theorem trans (h : Only B X w w') (k : Only B X w' w'') : Only B X w w'' := ⟨h.below.trans k.below, fun b cs ty fz hx hb => k.block b cs ty fz hx (h.block b cs ty fz hx hb)⟩
theorem drew (h : Only B X w w') : Only B X w w'.drew := ⟨h.below.drew, h.block⟩
theorem drewN (h : Only B X w w') (n : Nat) : Only B X w (w'.drewN n) := ⟨pw_below_drewN h.below n, h.block⟩
theorem lt {b : Nat} {o : Obj} (h : w.heap[b]? = some o) : b < w.heap.size := (Array.getElem?_eq_some_iff.1 h).1
/-- A call that turns nothing old. -/
theorem of_below (hb : Below w.heap.size w w') (hB : B ≤ w.heap.size) : Only B X w w' :=
  ⟨hb.mono hB, fun b cs ty fz _ h => (hb.block b (lt h)).trans h⟩
theorem alloc (h : Only B X w w') (hB : B ≤ w'.heap.size) (o : Obj) : Only B X w (w'.alloc o) :=
  ⟨h.below.alloc hB o, fun b cs ty fz hx hb => (Below.heap_alloc w' o b (lt (h.block b cs ty fz hx hb))).trans (h.block b cs ty fz hx hb)⟩
theorem set (h : Only B X w w') {b i : Nat} {cs : Array Value} {ty : TypeId} {fz : Nat × Nat} (hb : w'.heap[b]? = some (Obj.cells cs ty fz)) (hB : B ≤ b) (hX : X ty = true) (v : Value) : Only B X w (w'.setCell ⟨b, i, none⟩ v) := by
  refine ⟨h.below.setCell hB v, fun c cs' ty' fz' hx hc => ?_⟩
  have h1 := h.block c cs' ty' fz' hx hc
  by_cases e : c = b
  · subst e
    rw [hb] at h1
    cases h1
    rw [hX] at hx
    cases hx
  · rw [Below.heap_setCell w' ⟨b, i, none⟩ v c e]
    exact h1
theorem frame (h : Only B X w w') {b : Nat} {cs : Array Value} {ty : TypeId} {fz : Nat × Nat} (hx : X ty = false) (hb : w.heap[b]? = some (Obj.cells cs ty fz)) : w'.heap[b]? = some (Obj.cells cs ty fz) := h.block b cs ty fz hx hb
end Only
theorem heap_new (w : World) (o : Obj) : (w.alloc o).heap[w.heap.size]? = some o := by
  show (w.heap.push o)[w.heap.size]? = _
  simp
theorem heap_old {w : World} {b : Nat} {x : Obj} (o : Obj) (h : w.heap[b]? = some x) : (w.alloc o).heap[b]? = some x :=
  (Below.heap_alloc w o b (Only.lt h)).trans h
theorem heap_set {w : World} {b i : Nat} {cs : List Value} {t : TypeId} {fz : Nat × Nat} (v : Value) (h : w.heap[b]? = some (Cl cs t fz)) : (w.setCell ⟨b, i, none⟩ v).heap[b]? = some (Cl (cs.set i v) t fz) := by
  rw [Holds.setCell_eq h]
  have := Only.lt h
  simp [this]
theorem heap_set_ne {w : World} {b c i : Nat} {x : Obj} (v : Value) (h : w.heap[c]? = some x) (hn : c ≠ b) : (w.setCell ⟨b, i, none⟩ v).heap[c]? = some x :=
  (Below.heap_setCell w ⟨b, i, none⟩ v c hn).trans h
theorem cell_of {w : World} {b : Nat} {cs : List Value} {t : TypeId} {fz : Nat × Nat} (h : w.heap[b]? = some (Cl cs t fz)) {i : Nat} {v : Value} (hv : cs[i]? = some v) : w.cell? ⟨b, i, none⟩ = some v := by
  simp [World.cell?, h, hv]
theorem frozen_of {w : World} {b : Nat} {cs : List Value} {t : TypeId} (h : w.heap[b]? = some (Cl cs t)) (i : Nat) : w.frozen? ⟨b, i, none⟩ = false := by
  simp [World.frozen?, h]
/-! ### The program's table -/
abbrev Fl := Int × Int × Int
def fcells (f : Fl) : List Value := [.int .i64 f.1, .int .i64 f.2.1, .int .i64 f.2.2]
def pv : Option Nat → Value
  | none => .pointer none
  | some a => .pointer (some ⟨a, 0, none⟩)
structure Tab (w : World) (B t : Nat) (as_ : List (Option Nat)) (S : List (Option Fl)) : Prop where
  la : as_.length = 32
  ls : S.length = 32
  blk : w.heap[t]? = some (Cl (as_.map pv) 52)
  base : B ≤ t
  file : ∀ (i a : Nat), as_[i]? = some (some a) → B ≤ a ∧ ∃ f, S[i]? = some (some f) ∧ w.heap[a]? = some (Cl (fcells f) 44)
  non : ∀ (i : Nat), as_[i]? = some none → S[i]? = some none
  inj : ∀ (i j a : Nat), as_[i]? = some (some a) → as_[j]? = some (some a) → i = j
namespace Tab
variable {w w' : World} {B t : Nat} {as_ : List (Option Nat)} {S : List (Option Fl)} {X : TypeId → Bool}
theorem kept (h : Tab w B t as_ S) (k : Only B X w w') (h1 : X 52 = false) (h2 : X 44 = false) : Tab w' B t as_ S :=
  ⟨h.la, h.ls, k.block _ _ _ _ h1 h.blk, h.base, fun i a hi => by
    obtain ⟨hb, f, hf, hc⟩ := h.file i a hi
    exact ⟨hb, f, hf, k.block _ _ _ _ h2 hc⟩, h.non, h.inj⟩
theorem below (h : Tab w B t as_ S) (k : Below w.heap.size w w') (hB : B ≤ w.heap.size) : Tab w' B t as_ S := h.kept (X := fun _ => false) (Only.of_below k hB) rfl rfl
theorem cell_none (h : Tab w B t as_ S) {i : Nat} (hi : as_[i]? = some none) : w.cell? ⟨t, i, none⟩ = some (.pointer none) := cell_of h.blk (by rw [List.getElem?_map, hi]; rfl)
theorem cell_some (h : Tab w B t as_ S) {i a : Nat} (hi : as_[i]? = some (some a)) : w.cell? ⟨t, i, none⟩ = some (.pointer (some ⟨a, 0, none⟩)) := cell_of h.blk (by rw [List.getElem?_map, hi]; rfl)
theorem any (h : Tab w B t as_ S) (e : w'.heap = w.heap) : Tab w' B t as_ S := ⟨h.la, h.ls, by rw [e]; exact h.blk, h.base, fun i a hi => by rw [e]; exact h.file i a hi, h.non, h.inj⟩
/-- A place is open, or not. -/
theorem at_ (h : Tab w B t as_ S) {i : Nat} (hi : i < 32) : (as_[i]? = some none ∧ S[i]? = some none) ∨ ∃ a f, as_[i]? = some (some a) ∧ S[i]? = some (some f) ∧ B ≤ a ∧ w.heap[a]? = some (Cl (fcells f) 44) := by
  have hl := h.la
  have : as_[i]? = some as_[i] := List.getElem?_eq_getElem (by omega)
  cases hx : as_[i] with
  | none => rw [hx] at this; exact .inl ⟨this, h.non i this⟩
  | some a =>
    rw [hx] at this
    obtain ⟨hb, f, hf, hc⟩ := h.file i a this
    exact .inr ⟨a, f, this, hf, hb, hc⟩
theorem ne (h : Tab w B t as_ S) {a : Nat} {f : Fl} (hc : w.heap[a]? = some (Cl (fcells f) 44)) : t ≠ a := fun e => by
  subst e
  rw [h.blk] at hc
  injection hc with hc
  injection hc with _ e _
  exact absurd e (by decide)
/-- Place h is opened: the file lies in a new block. -/
theorem open_ (h : Tab w B t as_ S) {i : Nat} (hi : as_[i]? = some none) (f : Fl) (hB : B ≤ w.heap.size) : Tab ((w.alloc (Cl (fcells f) 44)).setCell ⟨t, i, none⟩ (.pointer (some ⟨w.heap.size, 0, none⟩))) B t (as_.set i (some w.heap.size)) (S.set i (some f)) := by
  have hlt : i < as_.length := (List.getElem?_eq_some_iff.1 hi).1
  have hne : w.heap.size ≠ t := by have := Only.lt h.blk; omega
  refine ⟨by simp [h.la], by simp [h.ls], ?_, h.base, ?_, ?_, ?_⟩
  · rw [heap_set _ (heap_old _ h.blk), List.map_set]
    rfl
  · intro j a hj
    rw [List.getElem?_set] at hj
    by_cases e : i = j
    · subst e
      rw [if_pos rfl, if_pos hlt] at hj
      cases hj
      exact ⟨hB, f, by rw [List.getElem?_set, if_pos rfl, if_pos (by rw [h.ls, ← h.la]; exact hlt)], heap_set_ne _ (heap_new _ _) hne⟩
    · rw [if_neg e] at hj
      obtain ⟨hb, f', hf, hc⟩ := h.file j a hj
      exact ⟨hb, f', by rw [List.getElem?_set, if_neg e]; exact hf, heap_set_ne _ (heap_old _ hc) (h.ne hc).symm⟩
  · intro j hj
    rw [List.getElem?_set] at hj
    by_cases e : i = j
    · subst e
      rw [if_pos rfl, if_pos hlt] at hj
      cases hj
    · rw [if_neg e] at hj
      rw [List.getElem?_set, if_neg e]
      exact h.non j hj
  · intro j k a hj hk
    have old : ∀ j, as_[j]? = some (some w.heap.size) → False := fun j hj => by
      obtain ⟨_, f', _, hc⟩ := h.file j _ hj
      have := Only.lt hc
      omega
    rw [List.getElem?_set] at hj hk
    by_cases e : i = j <;> by_cases e2 : i = k
    · omega
    · rw [if_pos e, if_pos hlt] at hj
      rw [if_neg e2] at hk
      cases hj
      exact (old k hk).elim
    · rw [if_neg e] at hj
      rw [if_pos e2, if_pos hlt] at hk
      cases hk
      exact (old j hj).elim
    · rw [if_neg e] at hj
      rw [if_neg e2] at hk
      exact h.inj j k a hj hk
/-- Place i is shut. -/
theorem shut (h : Tab w B t as_ S) {i : Nat} (hi : i < 32) : Tab (w.setCell ⟨t, i, none⟩ (.pointer none)) B t (as_.set i none) (S.set i none) := by
  have hlt : i < as_.length := by rw [h.la]; exact hi
  refine ⟨by simp [h.la], by simp [h.ls], ?_, h.base, ?_, ?_, ?_⟩
  · rw [heap_set _ h.blk, List.map_set]
    rfl
  · intro j a hj
    rw [List.getElem?_set] at hj
    by_cases e : i = j
    · rw [if_pos e, if_pos hlt] at hj
      cases hj
    · rw [if_neg e] at hj
      obtain ⟨hb, f', hf, hc⟩ := h.file j a hj
      exact ⟨hb, f', by rw [List.getElem?_set, if_neg e]; exact hf, heap_set_ne _ hc (h.ne hc).symm⟩
  · intro j hj
    rw [List.getElem?_set] at hj
    by_cases e : i = j
    · rw [List.getElem?_set, if_pos e, if_pos (by rw [h.ls]; exact hi)]
    · rw [if_neg e] at hj
      rw [List.getElem?_set, if_neg e]
      exact h.non j hj
  · intro j k a hj hk
    rw [List.getElem?_set] at hj hk
    by_cases e : i = j
    · rw [if_pos e, if_pos hlt] at hj
      cases hj
    · by_cases e2 : i = k
      · rw [if_pos e2, if_pos hlt] at hk
        cases hk
      · rw [if_neg e] at hj
        rw [if_neg e2] at hk
        exact h.inj j k a hj hk
/-- An offset is turned. -/
theorem moved (h : Tab w B t as_ S) {i a : Nat} {f : Fl} (hi : as_[i]? = some (some a)) (hf : S[i]? = some (some f)) (n : Int) : Tab (w.setCell ⟨a, 2, none⟩ (.int .i64 n)) B t as_ (S.set i (some (f.1, f.2.1, n))) := by
  obtain ⟨hb, f', hf', hc⟩ := h.file i a hi
  rw [hf] at hf'
  cases hf'
  have hlt : i < S.length := (List.getElem?_eq_some_iff.1 hf).1
  refine ⟨h.la, by simp [h.ls], heap_set_ne _ h.blk (h.ne hc), h.base, ?_, ?_, h.inj⟩
  · intro j b hj
    obtain ⟨hb', f', hf', hc'⟩ := h.file j b hj
    by_cases e : b = a
    · subst e
      have := h.inj i j b hi hj
      subst this
      refine ⟨hb', _, by rw [List.getElem?_set, if_pos rfl, if_pos hlt], ?_⟩
      rw [heap_set _ hc]
      rfl
    · have e2 : i ≠ j := fun e2 => by
        subst e2
        rw [hi] at hj
        cases hj
        exact e rfl
      exact ⟨hb', f', by rw [List.getElem?_set, if_neg e2]; exact hf', heap_set_ne _ hc' e⟩
  · intro j hj
    have e2 : i ≠ j := fun e2 => by
      subst e2
      rw [hi] at hj
      cases hj
    rw [List.getElem?_set, if_neg e2]
    exact h.non j hj
end Tab
/-- Block b is none of a table's. -/
def Away (t : Nat) (as_ : List (Option Nat)) (b : Nat) : Prop := b ≠ t ∧ ∀ i : Nat, as_[i]? ≠ some (some b)
/-- No block but a table's own is turned; what is none of the table's stays so. -/
def Fr (t : Nat) (as_ as2 : List (Option Nat)) (w w' : World) : Prop := ∀ (b : Nat) (o : Obj), w.heap[b]? = some o → Away t as_ b → w'.heap[b]? = some o ∧ Away t as2 b
namespace Fr
variable {t : Nat} {as_ as2 as3 : List (Option Nat)} {w w' w2 : World}
theorem refl : Fr t as_ as_ w w := fun _ _ h ha => ⟨h, ha⟩
theorem trans (h : Fr t as_ as2 w w') (k : Fr t as2 as3 w' w2) : Fr t as_ as3 w w2 := fun b o hb ha => by
  obtain ⟨h1, h2⟩ := h b o hb ha
  exact k b o h1 h2
theorem below (h : Below w.heap.size w w') : Fr t as_ as_ w w' := fun b o hb ha => ⟨(h.block b (Only.lt hb)).trans hb, ha⟩
theorem opened {i : Nat} (o' : Obj) (v : Value) : Fr t as_ (as_.set i (some w.heap.size)) w ((w.alloc o').setCell ⟨t, i, none⟩ v) := fun b o hb ha => by
  have hlt := Only.lt hb
  refine ⟨heap_set_ne _ (heap_old _ hb) ha.1, ha.1, fun j hj => ?_⟩
  rw [List.getElem?_set] at hj
  split at hj
  · split at hj
    · cases hj; omega
    · cases hj
  · exact ha.2 j hj
theorem shut {i : Nat} (v : Value) : Fr t as_ (as_.set i none) w (w.setCell ⟨t, i, none⟩ v) := fun b o hb ha => by
  refine ⟨heap_set_ne _ hb ha.1, ha.1, fun j hj => ?_⟩
  rw [List.getElem?_set] at hj
  split at hj
  · split at hj <;> cases hj
  · exact ha.2 j hj
theorem moved {i a : Nat} (hi : as_[i]? = some (some a)) (v : Value) : Fr t as_ as_ w (w.setCell ⟨a, 2, none⟩ v) := fun b o hb ha =>
  ⟨heap_set_ne _ hb (fun e => ha.2 i (e ▸ hi)), ha⟩
end Fr
end Go.Proofs.Ytgjajdejjiiocaa.Q
