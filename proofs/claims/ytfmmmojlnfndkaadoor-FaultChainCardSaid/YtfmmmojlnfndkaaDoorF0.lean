/- Chains of errors: what they are made of; the facts of the seat's types for them. -/
import Derived.Test.YtfmmmojlnfndkaaDoorH3
namespace Go.Proofs.YtfmmmojlnfndkaaDoor.As
open Go.RowKit Go.Proofs.YtfmmmojlnfndkaaDoorW.PrintWords Go.Proofs.YtfmmmojlnfndkaaDoorW.PrintLast Go.Extern.Stop Go.Stop Go.Extern
/-- A chain of errors: how deep, the errno at its end, what was done (outermost first). -/
inductive Ch (w : World) : Value → Nat → Option Int → List ByteArray → Prop
  | errno (e : Int) : Ch w (.iface 22 (.int .i64 e)) 0 (some e) []
  | str (b : Nat) : Ch w (.iface 88 (.pointer (some ⟨b, 0, none⟩))) 0 none []
  | bare (b : Nat) (op : ByteArray) : w.cell? ⟨b, 0, none⟩ = some (.string op) → w.cell? ⟨b, 2, none⟩ = some .nilIface → Ch w (.iface 40 (.pointer (some ⟨b, 0, none⟩))) 0 none [op]
  | wrap (b : Nat) (op : ByteArray) (v : Value) (n : Nat) (r : Option Int) (l : List ByteArray) : w.cell? ⟨b, 0, none⟩ = some (.string op) → w.cell? ⟨b, 2, none⟩ = some v → Ch w v n r l → Ch w (.iface 40 (.pointer (some ⟨b, 0, none⟩))) (n + 1) r (op :: l)
  | other (b : Nat) (v : Value) (n : Nat) (r : Option Int) (l : List ByteArray) : w.cell? ⟨b, 0, none⟩ = some v → Ch w v n r l → Ch w (.iface 50 (.pointer (some ⟨b, 0, none⟩))) (n + 1) r l
theorem Ch.on {w w' : World} {v : Value} {n : Nat} {r : Option Int} {l : List ByteArray} (h : Ch w v n r l) (hb : Below w.heap.size w w') : Ch w' v n r l := by
  induction h with
  | errno e => exact .errno e
  | str b => exact .str b
  | bare b op h1 h2 => exact .bare b op (cell_below hb h1) (cell_below hb h2)
  | wrap b op v n r l h1 h2 _ ih => exact .wrap b op v n r l (cell_below hb h1) (cell_below hb h2) ih
  | other b v n r l h1 _ ih => exact .other b v n r l (cell_below hb h1) ih
theorem Ch.iface {w : World} {v : Value} {n : Nat} {r : Option Int} {l : List ByteArray} (h : Ch w v n r l) : ∃ t x, v = .iface t x := by cases h <;> exact ⟨_, _, rfl⟩
theorem Ch.same {w : World} {v : Value} {n : Nat} {r : Option Int} {l : List ByteArray} (h : Ch w v n r l) : ∀ {n' r' l'}, Ch w v n' r' l' → n = n' ∧ r = r' ∧ l = l' := by
  induction h with
  | errno e => intro _ _ _ h; cases h; exact ⟨rfl, rfl, rfl⟩
  | str b => intro _ _ _ h; cases h; exact ⟨rfl, rfl, rfl⟩
  | bare b op h1 h2 =>
    intro _ _ _ h
    cases h with
    | bare _ op' k1 k2 =>
      have e := Option.some.inj (h1.symm.trans k1)
      cases e
      exact ⟨rfl, rfl, rfl⟩
    | wrap _ op' v' n' r' l' k1 k2 k3 =>
      have e := Option.some.inj (h2.symm.trans k2)
      obtain ⟨t, x, hx⟩ := k3.iface
      rw [hx] at e; cases e
  | wrap b op v n r l h1 h2 h3 ih =>
    intro _ _ _ h
    cases h with
    | bare _ op' k1 k2 =>
      have e := Option.some.inj (h2.symm.trans k2)
      obtain ⟨t, x, hx⟩ := h3.iface
      rw [hx] at e; cases e
    | wrap _ op' v' n' r' l' k1 k2 k3 =>
      have e := Option.some.inj (h1.symm.trans k1)
      cases e
      have e2 := Option.some.inj (h2.symm.trans k2)
      subst e2
      obtain ⟨a, b, c⟩ := ih k3
      exact ⟨by rw [a], b, by rw [c]⟩
  | other b v n r l h1 h2 ih =>
    intro _ _ _ h
    cases h with
    | other _ v' n' r' l' k1 k2 =>
      have e2 := Option.some.inj (h1.symm.trans k1)
      subst e2
      obtain ⟨a, b, c⟩ := ih k2
      exact ⟨by rw [a], b, c⟩
/-- How deep a value is. -/
noncomputable def dep (w : World) (v : Value) : Nat := by
  classical exact if h : ∃ n r l, Ch w v n r l then h.choose else 0
theorem dep_of {w : World} {v : Value} {n : Nat} {r : Option Int} {l : List ByteArray} (h : Ch w v n r l) : dep w v = n := by
  have hx : ∃ n r l, Ch w v n r l := ⟨n, r, l, h⟩
  unfold dep
  rw [dif_pos hx]
  obtain ⟨r', l', h'⟩ := hx.choose_spec
  exact (h'.same h).1
theorem asUn88 (v : Value) (w : World) : (Instr.typeAssert (.iface 88 v) 32 100 true).run Tryd.prog w = .ok (.tuple #[.nilIface, .bool false]) w := run_typeAssert_lacksB Tryd.underlying100 (by kernel_rfl) (by kernel_rfl) v 32 w
theorem asUns88 (v : Value) (w : World) : (Instr.typeAssert (.iface 88 v) 32 101 true).run Tryd.prog w = .ok (.tuple #[.nilIface, .bool false]) w := run_typeAssert_lacksB Tryd.underlying101 (by kernel_rfl) (by kernel_rfl) v 32 w
theorem isNo88 (v : Value) (w : World) : (Instr.typeAssert (.iface 88 v) 32 104 true).run Tryd.prog w = .ok (.tuple #[.nilIface, .bool false]) w := run_typeAssert_lacksB Tryd.underlying104 (by kernel_rfl) (by kernel_rfl) v 32 w
theorem eql88_22 (p : Value) (f : Int) (w : World) : (binOp .eql 32 (.iface 88 p) (.iface 22 (.int .i64 f))).run Tryd.prog w = .ok (.bool false) w := run_eql_iface_types 88 22 p (.int .i64 f) Tryd.underlying32 (by decide) w
end Go.Proofs.YtfmmmojlnfndkaaDoor.As
