/- A row of cells that is only read: it lay there before, or it lies in a block of the call's own. -/
import Derived.Test.YtgjajdejjiiocaaS0
namespace Go.Proofs.Ytgjajdejjiiocaa.Sep
open Go.RowKit Go.Proofs.YtgjajdejjiiocaaW.PrintWords Go.Proofs.YtgjajdejjiiocaaW.PrintLast
set_option linter.unusedVariables false
set_option linter.unusedSimpArgs false
/-- The row at A reads as xs. -/
def Src {α : Type} (enc : α → Value) (w0 : World) (H : Frag) (A : Option Addr) (xs : List α) : Prop :=
  xs = [] ∨ ∃ b off, A = some ⟨b, off, none⟩ ∧ ((b < w0.heap.size ∧ ∀ j x, xs[j]? = some x → w0.cell? ⟨b, off + j, none⟩ = some (enc x)) ∨ ∃ cs t fz, (b, Cl cs t fz) ∈ H ∧ ∀ j x, xs[j]? = some x → cs[off + j]? = some (enc x))
theorem add_at (b off j : Nat) : (⟨b, off, none⟩ : Addr).add j = ⟨b, off + j, none⟩ := by unfold Addr.add; split <;> simp_all
section
variable {α : Type} {enc : α → Value} {w0 w : World} {H H' : Frag} {A : Option Addr} {xs : List α}
theorem Src.nil (A : Option Addr) : Src enc w0 H A [] := .inl rfl
theorem Src.mono (h : Src enc w0 H A xs) (hs : ∀ x, x ∈ H → x ∈ H') : Src enc w0 H' A xs := by
  rcases h with h | ⟨b, off, hA, h | ⟨cs, t, fz, hm, hc⟩⟩
  · exact .inl h
  · exact .inr ⟨b, off, hA, .inl h⟩
  · exact .inr ⟨b, off, hA, .inr ⟨cs, t, fz, hs _ hm, hc⟩⟩
theorem Src.cell (h : Src enc w0 H A xs) (HH : Holds w0 w H) {j : Nat} {x : α} (hx : xs[j]? = some x) : ∃ b off, A = some ⟨b, off, none⟩ ∧ w.cell? ⟨b, off + j, none⟩ = some (enc x) := by
  rcases h with h | ⟨b, off, hA, ⟨hb, h⟩ | ⟨cs, t, fz, hm, hc⟩⟩
  · subst h
    simp at hx
  · exact ⟨b, off, hA, (HH.below.cell (p := ⟨b, off + j, none⟩) hb).trans (h j x hx)⟩
  · exact ⟨b, off, hA, HH.cell hm (hc j x hx)⟩
theorem Src.C {h1 : ∀ x, (enc x).oneCell' = true} (h : Src enc w0 H A xs) (HH : Holds w0 w H) (hl : xs.length ≤ 9223372036854775807) : (Kd.scalar enc h1).C w A xs.length xs := by
  refine ⟨rfl, hl, fun hn => ?_⟩
  obtain ⟨b, off, hA, hc⟩ := h.cell HH (List.getElem?_eq_getElem hn)
  refine ⟨_, hA, fun j p hp => ⟨[enc p], rfl, rfl, fun i u hu => ?_⟩⟩
  have hi : i = 0 := by
    have := (List.getElem?_eq_some_iff.1 hu).1
    simp at this
    omega
  subst hi
  simp at hu
  subst hu
  obtain ⟨b', off', hA', hc'⟩ := h.cell HH hp
  rw [hA] at hA'
  cases hA'
  rw [add_at]
  simpa [Kd.scalar] using hc'
theorem Src.of_C {h1 : ∀ x, (enc x).oneCell' = true} (h : (Kd.scalar enc h1).C w0 A xs.length xs) : Src enc w0 H A xs := by
  obtain ⟨_, hl, hc⟩ := h
  cases xs with
  | nil => exact .inl rfl
  | cons y ys =>
    obtain ⟨ad, hA, hc⟩ := hc (by simp)
    have hcell : ∀ j x, (y :: ys)[j]? = some x → w0.cell? (ad.add j) = some (enc x) := by
      intro j x hx
      obtain ⟨c, hcl, hr, hcc⟩ := hc j x hx
      have hr' : c = [enc x] := hr
      subst hr'
      have := hcc 0 _ rfl
      simpa [Kd.scalar] using this
    have h0 := hcell 0 y rfl
    obtain ⟨b, off, sp⟩ := ad
    have hsp : sp = none := by
      have h0' : w0.cell? ⟨b, off, sp⟩ = some (enc y) := h0
      cases sp with
      | none => rfl
      | some s =>
        exfalso
        unfold World.cell? at h0'
        split at h0' <;> simp at h0'
    subst hsp
    refine .inr ⟨b, off, hA, .inl ⟨World.block_lt_of_cell? w0 _ h0, fun j x hx => ?_⟩⟩
    rw [← add_at]
    exact hcell j x hx
theorem Src.take (h : Src enc w0 H A xs) (m : Nat) : Src enc w0 H A (xs.take m) := by
  have hj : ∀ j x, (xs.take m)[j]? = some x → xs[j]? = some x := fun j x hx => by
    rw [List.getElem?_take] at hx
    split at hx
    · exact hx
    · cases hx
  rcases h with h | ⟨b, off, hA, ⟨hb, h⟩ | ⟨cs, t, fz, hm, hc⟩⟩
  · subst h
    exact .inl (by simp)
  · exact .inr ⟨b, off, hA, .inl ⟨hb, fun j x hx => h j x (hj j x hx)⟩⟩
  · exact .inr ⟨b, off, hA, .inr ⟨cs, t, fz, hm, fun j x hx => hc j x (hj j x hx)⟩⟩
theorem Src.drop (h : Src enc w0 H A xs) (m : Nat) : Src enc w0 H (A.map (·.add m)) (xs.drop m) := by
  have hj : ∀ j x, (xs.drop m)[j]? = some x → xs[m + j]? = some x := fun j x hx => by rwa [List.getElem?_drop] at hx
  rcases h with h | ⟨b, off, hA, ⟨hb, h⟩ | ⟨cs, t, fz, hm, hc⟩⟩
  · subst h
    exact .inl (by simp)
  · refine .inr ⟨b, off + m, by rw [hA]; simp [add_at], .inl ⟨hb, fun j x hx => ?_⟩⟩
    have := h (m + j) x (hj j x hx)
    rwa [← Nat.add_assoc] at this
  · refine .inr ⟨b, off + m, by rw [hA]; simp [add_at], .inr ⟨cs, t, fz, hm, fun j x hx => ?_⟩⟩
    have := hc (m + j) x (hj j x hx)
    rwa [← Nat.add_assoc] at this
end
end Go.Proofs.Ytgjajdejjiiocaa.Sep
