/- names.Join: the library's Join. -/
import Derived.Test.YthcooheghekplaaDoorH0
import Derived.Test.YthcooheghekplaaDoorQ1
namespace Go.Proofs.YthcooheghekplaaDoor.Q
open Go.RowKit Go.Shelf Go.Proofs.YthcooheghekplaaDoorW.PrintWords
set_option linter.unusedVariables false
set_option linter.unusedSimpArgs false
theorem texts_at {w : World} {A : Option Addr} {xs : List ByteArray} (h : Kd.C Kd.string w A xs.length xs) : ∃ b off, ∀ j x, xs[j]? = some x → A = some ⟨b, off, none⟩ ∧ w.cell? ⟨b, off + j, none⟩ = some (.string x) := by
  obtain ⟨_, hl, hc⟩ := h
  cases xs with
  | nil => exact ⟨0, 0, fun j x hx => by simp at hx⟩
  | cons y ys =>
    obtain ⟨ad, hA, hc⟩ := hc (by simp)
    have hcell : ∀ j x, (y :: ys)[j]? = some x → w.cell? (ad.add j) = some (.string x) := by
      intro j x hx
      obtain ⟨c, hcl, hr, hcc⟩ := hc j x hx
      have hr' : c = [.string x] := hr
      subst hr'
      have := hcc 0 _ rfl
      simpa [Kd.string, Kd.scalar] using this
    have h0 := hcell 0 y rfl
    obtain ⟨b, off, sp⟩ := ad
    have hsp : sp = none := by
      have h0' : w.cell? ⟨b, off, sp⟩ = some (.string y) := h0
      cases sp with
      | none => rfl
      | some s =>
        exfalso
        unfold World.cell? at h0'
        split at h0' <;> simp at h0'
    subst hsp
    refine ⟨b, off, fun j x hx => ⟨hA, ?_⟩⟩
    have h2 := hcell j x hx
    unfold Addr.add at h2
    split at h2
    · rename_i h; subst h; exact h2
    · exact h2
theorem joinExtra : Builder.Extra Tryd.prog Tryd.laysJoin_ren := {
  sizeBuilder := by kernel_rfl
  liesBuilder := by kernel_rfl
  t5 := Tryd.underlying5
  a5 := Tryd.isAgg5
  z5 := Tryd.sizeOf5
  v5 := Tryd.zeroValue5
  infoByte := by kernel_rfl
  cellsByte := by kernel_rfl
  sizeByte := by kernel_rfl
  neB5 := by decide }
def joined (l : List ByteArray) : ByteArray := ⟨(Lib.join (l.map (·.data.toList)) (⟨#[47]⟩ : ByteArray).data.toList).toArray⟩
def names_Join.f (l0 : List ByteArray) : Option ByteArray := if (joined l0).size < 140737488355328 then some ((⟨#[47]⟩ : ByteArray) ++ joined l0) else none
theorem strings_Join.calls (A0 : Option Addr) (c0 : Nat) (l0 : List ByteArray) (w : World) (hr0 : Kd.C Kd.string w A0 l0.length l0) (hc0 : l0.length ≤ c0) (h : (joined l0).size < 140737488355328) :
    Calls Tryd.prog 35 #[.slice A0 l0.length c0, .string ⟨#[47]⟩] w fun e w' => e = .returned (.string (joined l0)) ∧ Below w.heap.size w w' := by
  obtain ⟨b, off, ha⟩ := texts_at hr0
  cases l0 with
  | nil => exact (Any.strings_Join_none Tryd.laysJoin joinExtra A0 c0 ⟨#[47]⟩ w).mono (fun e w' ⟨he, hw⟩ => ⟨he, hw ▸ Below.refl _ _⟩)
  | cons x xs =>
    obtain ⟨rfl, hx⟩ := ha 0 x rfl
    have hb : b < w.heap.size := World.block_lt_of_cell? w _ hx
    have hs : (joined (x :: xs)).size = (Lib.join ((x :: xs).map (·.data.toList)) (⟨#[47]⟩ : ByteArray).data.toList).length := by
      unfold joined; rw [ByteArray.size, List.size_toArray]
    have hn : (x :: xs).length ≤ (Lib.join ((x :: xs).map (·.data.toList)) (⟨#[47]⟩ : ByteArray).data.toList).length + 1 := by
      have hk : ∀ l : List (List UInt8), l.length ≤ (Lib.joinTail (⟨#[47]⟩ : ByteArray).data.toList l).length := by
        intro l
        induction l with
        | nil => exact Nat.zero_le _
        | cons a t ih =>
          have e : Lib.joinTail (⟨#[47]⟩ : ByteArray).data.toList (a :: t) = ((⟨#[47]⟩ : ByteArray).data.toList ++ a) ++ Lib.joinTail (⟨#[47]⟩ : ByteArray).data.toList t := rfl
          have e1 : (⟨#[47]⟩ : ByteArray).data.toList.length = 1 := rfl
          rw [e, List.length_append, List.length_append, e1, List.length_cons]
          omega
      have := hk (xs.map (·.data.toList))
      rw [List.length_map] at this
      rw [List.map_cons, Lib.join_cons, List.length_append, List.length_cons]
      omega
    exact Any.strings_Join Tryd.laysJoin joinExtra b off c0 (x :: xs) ⟨#[47]⟩ w (fun j y hy => (ha j y hy).2) hb (by omega) hc0 (by omega)
set_option maxRecDepth 100000 in
set_option maxHeartbeats 4000000 in
theorem names_Join.calls (A0 : Option Addr) (c0 : Nat) (l0 : List ByteArray) (r : ByteArray) (w : World) (hr0 : Kd.C Kd.string w A0 l0.length l0) (hc0 : l0.length ≤ c0) (h : names_Join.f l0 = some r) :
    Calls Tryd.prog 16 #[.slice A0 l0.length c0] w fun e w' => e = .returned (.string r) ∧ Below w.heap.size w w' := by
  unfold names_Join.f at h
  split at h
  · rename_i hs
    cases h
    have hJ := strings_Join.calls A0 c0 l0 w hr0 hc0 hs
    obtain ⟨J, hJd⟩ : ∃ J, joined l0 = J := ⟨_, rfl⟩
    rw [hJd] at hs hJ ⊢
    have hs1 : (J.size : Int) < 140737488355328 := by omega
    clear hr0 hc0 hJd
    go_enter Tryd.func16, Tryd.ntmps16
    go_wp2_with (go_at_call 35; (with_reducible refine hJ.mono ?_); rintro e w' ⟨rfl, hb⟩)
    go_ret
    exact ⟨rfl, hb⟩
  · cases h
end Go.Proofs.YthcooheghekplaaDoor.Q
