/- Plain words for space.Change: what a map's entries cost, the sum that stops at 2^62, a map to which nodes are done. No program, no condition. -/
import Derived.Test.YtgjpbiogkjiliaaQ0
import Derived.Maps.Ext
import Derived.Maps.StringElems
namespace Go.Proofs.Ytgjpbiogkjiliaa.Q
open Go.RowKit Go.Maps
set_option linter.unusedVariables false
set_option linter.unusedSimpArgs false

abbrev Ent := Lit × DataW Unit
/-- The most that a text takes. -/
def big : Nat := 140737488355328
def costOf (k v : List UInt8) : Nat := 64 + 2 * k.length + v.length
def cost : Ent → Nat
  | (.string k, .lit (.string v)) => costOf k v
  | _ => 0
def costs (es : List Ent) : Nat := (es.map cost).sum
def sat (n : Nat) : Int := if n ≤ 4611686018427387904 then n else 4611686018427387904
def Good (p : Ent) : Prop := ∃ k v : List UInt8, p = (.string k, .lit (.string v)) ∧ k.length ≤ big ∧ v.length ≤ big

theorem sat_nonneg (n : Nat) : 0 ≤ sat n := by unfold sat; split <;> omega
theorem sat_le (n : Nat) : sat n ≤ 4611686018427387904 := by unfold sat; split <;> omega
theorem sat_add (n c : Nat) (h1 : 1 ≤ c) (h2 : (c : Int) ≤ 4611686018427387904) : (if sat n > 4611686018427387904 - (c : Int) then 4611686018427387904 else sat n + c) = sat (n + c) := by
  unfold sat
  split <;> split <;> split <;> omega
theorem costOf_pos (k v : List UInt8) : 1 ≤ costOf k v := by unfold costOf; omega
theorem costOf_le {k v : List UInt8} (hk : k.length ≤ big) (hv : v.length ≤ big) : (costOf k v : Int) ≤ 4611686018427387904 := by unfold costOf big at *; omega

theorem costs_nil : costs [] = 0 := rfl
theorem costs_cons (p : Ent) (l : List Ent) : costs (p :: l) = cost p + costs l := rfl
theorem costs_perm {a b : List Ent} (h : a.Perm b) : costs a = costs b := (h.map cost).sum_nat

/-- One entry more is no longer to come. -/
theorem costs_step {kl : Lit} {d : DataW Unit} {left : Lit → Bool} (hl : left kl = true) : ∀ {es : List Ent}, es.Pairwise (fun p q => p.1 ≠ q.1) → (∀ p ∈ es, WideAt.IsKeyLit p.1) → (kl, d) ∈ es →
    costs (es.filter fun p => !(left p.1 && !p.1.sameKey kl)) = costs (es.filter fun p => !left p.1) + cost (kl, d)
  | [], _, _, h => by simp at h
  | y :: r, hp, hk, h => by
    obtain ⟨h1, h2⟩ := List.pairwise_cons.1 hp
    rcases List.mem_cons.1 h with e | hr
    · subst e
      have hs : kl.sameKey kl = true := WideAt.sameKey_self (hk (kl, d) (by simp))
      have hrest : (r.filter fun p => !(left p.1 && !p.1.sameKey kl)) = r.filter fun p => !left p.1 := by
        refine List.filter_congr fun p hp' => ?_
        have hne : p.1.sameKey kl = false := sameKey_ne (fun e => h1 p hp' e.symm)
        simp [hne]
      simp only [List.filter_cons, hl, hs, hrest]
      simp [costs_cons]
      omega
    · have ih := costs_step hl h2 (fun p hp' => hk p (by simp [hp'])) hr
      have hne : y.1.sameKey kl = false := sameKey_ne (h1 _ hr)
      simp only [List.filter_cons, hne]
      cases left y.1
      · simp [costs_cons] at ih ⊢; omega
      · simpa using ih

theorem costs_start {es : List Ent} (hk : ∀ p ∈ es, WideAt.IsKeyLit p.1) : costs (es.filter fun p => !(has (.map es : DataW Unit) p.1)) = 0 := by
  rw [List.filter_eq_nil_iff.2]
  · rfl
  · intro p hp
    have : has (.map es : DataW Unit) p.1 = true := List.any_eq_true.2 ⟨p, hp, WideAt.sameKey_self (hk p hp)⟩
    simp [this]
theorem costs_end {es : List Ent} {left : Lit → Bool} (h : ∀ kl, left kl = false) : costs (es.filter fun p => !left p.1) = costs es := by
  rw [List.filter_eq_self.2]
  intro p _
  simp [h]

/-- What stands at a key is an entry. -/
theorem mem_of_atKey {es : List Ent} {kl : Lit} {d : DataW Unit} (h : ∀ zd, (.map es : DataW Unit).atKey kl zd = d) : (kl, d) ∈ es := by
  have h0 := h (.nil)
  have h1 := h (.ptr .nil)
  simp only [DataW.atKey] at h0 h1
  cases hf : es.find? (fun p => p.1.sameKey kl) with
  | none => rw [hf] at h0 h1; simp at h0 h1; rw [← h0] at h1; cases h1
  | some p =>
    rw [hf] at h0
    simp at h0
    have hm := List.mem_of_find?_eq_some hf
    have hk := WideAt.sameKey_eq (List.find?_some (p := fun p : Ent => p.1.sameKey kl) hf)
    rw [← hk, ← h0]
    exact hm

/-- One node done to a map. -/
def step (D : DataW Unit) (x : S37) : DataW Unit := if x.f2 = true then D.del (.string x.f0.data.toList) else D.put (.string x.f0.data.toList) (.lit (.string x.f1.data.toList))
def doneD (D : DataW Unit) (l : List S37) : DataW Unit := l.foldl step D
def ents : DataW Unit → List Ent
  | .map es => es
  | _ => []
def Small (x : S37) : Prop := x.f0.size ≤ big ∧ x.f1.size ≤ big
instance (x : S37) : Decidable (Small x) := by unfold Small; exact inferInstance

theorem mem_insert {x p : Ent} : ∀ {l : List Ent}, p ∈ DataW.insert x l ↔ p = x ∨ p ∈ l
  | [] => by simp [DataW.insert]
  | y :: r => by
    unfold DataW.insert
    split
    · simp
    · simp only [List.mem_cons, mem_insert (l := r)]
      constructor
      · rintro (h | h | h) <;> simp [h]
      · rintro (h | h | h) <;> simp [h]

theorem good_step {D : DataW Unit} {x : S37} (hD : ∀ p ∈ ents D, Good p) (hx : Small x) : ∀ p ∈ ents (step D x), Good p := by
  intro p hp
  unfold step at hp
  split at hp
  · cases D <;> simp [DataW.del, ents] at hp
    exact hD p hp.1
  · cases D <;> simp [DataW.put, ents] at hp
    rcases mem_insert.1 hp with h | h
    · exact ⟨_, _, h, by simpa using hx.1, by simpa using hx.2⟩
    · exact hD p (List.mem_filter.1 h).1

theorem good_done {D : DataW Unit} : ∀ {l : List S37} , (∀ p ∈ ents D, Good p) → (∀ x ∈ l, Small x) → ∀ p ∈ ents (doneD D l), Good p := by
  intro l
  induction l generalizing D with
  | nil => intro h _; exact h
  | cons x r ih => intro h hx; exact ih (good_step h (hx x (by simp))) (fun y hy => hx y (by simp [hy]))

theorem done_take (D : DataW Unit) (l : List S37) (k : Nat) (h : k < l.length) : doneD D (l.take (k + 1)) = step (doneD D (l.take k)) l[k] := by
  unfold doneD
  rw [List.take_succ_eq_append_getElem h, List.foldl_append]
  rfl

def space_Change.f (l g : List S37) : Option (Int × Int) :=
  if (∀ x ∈ l, Small x) ∧ (∀ x ∈ g, Small x) ∧ l.length ≤ big ∧ g.length ≤ big then
    some (sat (costs (ents (doneD (.map []) l))), sat (costs (ents (doneD (doneD (.map []) l) g))))
  else none

end Go.Proofs.Ytgjpbiogkjiliaa.Q
