/- The program's table: Seek and Move of a table; New; the chapter's examples. -/
import Derived.Test.YtgjajdejjiiocaaH8
namespace Go.Proofs.Ytgjajdejjiiocaa.Q
open Go.RowKit Go.Proofs.YtgjajdejjiiocaaW.PrintWords Go.Proofs.YtgjajdejjiiocaaW.PrintLast Go.Proofs.Ytgjajdejjiiocaa.Sep
set_option linter.unusedVariables false
set_option linter.unusedSimpArgs false
theorem getS_yes {S : List (Option Fl)} {k : Nat} {f : Fl} (h : S[k]? = some (some f)) : getS S (k : Int) = (f, 0) := by
  unfold getS
  rw [if_pos (by omega), Int.toNat_natCast, h]
theorem getS_none {S : List (Option Fl)} {k : Nat} (h : S[k]? = some none) : getS S (k : Int) = ((0, 0, 0), 9) := by
  unfold getS
  rw [if_pos (by omega), Int.toNat_natCast, h]
theorem getS_out {S : List (Option Fl)} {h : Int} (hl : S.length = 32) (ho : h < 0 ∨ 32 ≤ h) : getS S h = ((0, 0, 0), 9) := by
  unfold getS
  split
  · have : S[h.toNat]? = none := List.getElem?_eq_none (by rw [hl]; omega)
    rw [this]
  · rfl
theorem seekS_no {S : List (Option Fl)} {h : Int} (n wh z : Int) (hg : getS S h = ((0, 0, 0), 9)) : seekS S h n wh z = (S, 0, 9) := by
  unfold seekS
  rw [hg, if_neg (by decide)]
theorem seekS_yes {S : List (Option Fl)} {k : Nat} {f : Fl} (n wh z : Int) (h : S[k]? = some (some f)) : seekS S k n wh z = if goodD f.2.2 n wh z = true then (S.set k (some (f.1, f.2.1, dest f.2.2 n wh z)), dest f.2.2 n wh z, 0) else (S, 0, 22) := by
  unfold seekS
  rw [getS_yes h, if_pos rfl, Int.toNat_natCast]
theorem goodD_one (o n z : Int) : goodD o n 1 z = okO (o + n) := rfl
theorem dest_one (o n z : Int) : dest o n 1 z = o + n := rfl
section
variable {w : World} {B t : Nat} {as_ : List (Option Nat)} {S : List (Option Fl)}
theorem stepW_tab {k a : Nat} {f : Fl} (hT : Tab w B t as_ S) (ha : as_[k]? = some (some a)) (hs : S[k]? = some (some f)) (d : Int) (g : Bool) :
    Tab (stepW a w d g) B t as_ (if g = true then S.set k (some (f.1, f.2.1, d)) else S) ∧ Only B XT w (stepW a w d g) ∧ Fr t as_ as_ w (stepW a w d g) := by
  obtain ⟨hba, f', hf', hc⟩ := hT.file k a ha
  unfold stepW
  cases g with
  | false => exact ⟨hT, Only.refl _ _ _, Fr.refl⟩
  | true => exact ⟨hT.moved ha hs d, (Only.refl B XT w).set hc hba rfl _, Fr.moved ha _⟩
theorem seek_calls (h n wh z : Int) (hT : Tab w B t as_ S) (hO : Offs S) (hn : -9223372036854775808 ≤ n ∧ n ≤ 9223372036854775807) (hz : -9223372036854775808 ≤ z ∧ z ≤ 9223372036854775807) :
    Calls Try.prog 15 #[.pointer (some ⟨t, 0, none⟩), .int .i64 h, .int .i64 n, .int .i64 wh, .int .i64 z] w (TabPost B t w as_ (seekS S h n wh z).1 (.tuple #[.int .i64 (seekS S h n wh z).2.1, .int .i64 (seekS S h n wh z).2.2])) := by
  by_cases h0 : 0 ≤ h ∧ h < 32
  · obtain ⟨k, rfl⟩ := Int.eq_ofNat_of_zero_le h0.1
    have hk : k < 32 := by omega
    rcases hT.at_ hk with ⟨ha, hs⟩ | ⟨a, f, ha, hs, hba, hc⟩
    · rw [seekS_no n wh z (getS_none hs)]
      refine (seek_bad _ _ _ _ _ 9 (.inl rfl) (get_none k hk (hT.cell_none ha))).mono ?_
      rintro e w' ⟨rfl, rfl⟩
      exact ⟨rfl, ⟨_, hT, Fr.refl⟩, Only.refl _ _ _⟩
    · rw [seekS_yes n wh z hs]
      refine (seek_one k f a n wh z hk (hT.cell_some ha) hc (hO k f hs) hn hz).mono ?_
      rintro e w' ⟨rfl, rfl⟩
      obtain ⟨h1, h2, h3⟩ := stepW_tab hT ha hs (dest f.2.2 n wh z) (goodD f.2.2 n wh z)
      generalize dest f.2.2 n wh z = d at *
      generalize goodD f.2.2 n wh z = g at *
      cases g with
      | false => exact ⟨rfl, ⟨_, h1, h3⟩, h2⟩
      | true => exact ⟨rfl, ⟨_, h1, h3⟩, h2⟩
  · rw [seekS_no n wh z (getS_out hT.ls (by omega))]
    refine (seek_bad _ _ _ _ _ 9 (.inl rfl) (get_out h (by omega))).mono ?_
    rintro e w' ⟨rfl, rfl⟩
    exact ⟨rfl, ⟨_, hT, Fr.refl⟩, Only.refl _ _ _⟩
theorem move_calls (h n : Int) (hT : Tab w B t as_ S) (hO : Offs S) :
    Calls Try.prog 17 #[.pointer (some ⟨t, 0, none⟩), .int .i64 h, .int .i64 n] w (TabPost B t w as_ (moveS S h n).1 (.int .i64 (moveS S h n).2)) := by
  unfold moveS
  by_cases h0 : 0 ≤ h ∧ h < 32
  · obtain ⟨k, rfl⟩ := Int.eq_ofNat_of_zero_le h0.1
    have hk : k < 32 := by omega
    rcases hT.at_ hk with ⟨ha, hs⟩ | ⟨a, f, ha, hs, hba, hc⟩
    · rw [seekS_no n 1 0 (getS_none hs)]
      refine (move_bad _ _ _ 9 (.inl rfl) (get_none k hk (hT.cell_none ha))).mono ?_
      rintro e w' ⟨rfl, rfl⟩
      exact ⟨rfl, ⟨_, hT, Fr.refl⟩, Only.refl _ _ _⟩
    · rw [seekS_yes n 1 0 hs, goodD_one, dest_one]
      refine (move_one k f a n hk (hT.cell_some ha) hc (hO k f hs)).mono ?_
      rintro e w' ⟨rfl, rfl⟩
      obtain ⟨h1, h2, h3⟩ := stepW_tab hT ha hs (f.2.2 + n) (okO (f.2.2 + n))
      generalize f.2.2 + n = d at *
      generalize okO d = g at *
      cases g with
      | false => exact ⟨rfl, ⟨_, h1, h3⟩, h2⟩
      | true => exact ⟨rfl, ⟨_, h1, h3⟩, h2⟩
  · rw [seekS_no n 1 0 (getS_out hT.ls (by omega))]
    refine (move_bad _ _ _ 9 (.inl rfl) (get_out h (by omega))).mono ?_
    rintro e w' ⟨rfl, rfl⟩
    exact ⟨rfl, ⟨_, hT, Fr.refl⟩, Only.refl _ _ _⟩
/-- A table with nothing open. -/
def S0 : List (Option Fl) := List.replicate 32 none
def NewPost (w : World) (e : Ending) (w' : World) : Prop := ∃ t, e = .returned (.pointer (some ⟨t, 0, none⟩)) ∧ (∃ as_, Tab w' w.heap.size t as_ S0) ∧ Below w.heap.size w w'
theorem new_tab (w : World) : Tab (w.alloc (Cl ((List.replicate 32 none).map pv) 52)) w.heap.size w.heap.size (List.replicate 32 none) S0 := by
  refine ⟨rfl, rfl, heap_new _ _, Nat.le_refl _, ?_, ?_, ?_⟩
  · intro i a h
    rw [List.getElem?_replicate] at h
    split at h <;> simp at h
  · intro i h
    unfold S0
    rw [List.getElem?_replicate] at h ⊢
    split at h
    · rw [if_pos (by assumption)]
    · simp at h
  · intro i j a h
    rw [List.getElem?_replicate] at h
    split at h <;> simp at h
theorem New_calls (w : World) : Calls Try.prog 7 #[] w (NewPost w) := by
  have HT := Aside0.mk (new_tab w)
  go_enter Try.func7, Try.ntmps7
  go_wp2
  go_ret
  exact ⟨_, rfl, ⟨_, HT.out⟩, (Below.refl _ _).alloc (Nat.le_refl _) _⟩
end
end Go.Proofs.Ytgjajdejjiiocaa.Q
