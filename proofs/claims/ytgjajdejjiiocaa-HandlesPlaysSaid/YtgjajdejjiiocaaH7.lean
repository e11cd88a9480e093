/- The program's table: Close. -/
import Derived.Test.YtgjajdejjiiocaaH6
import Derived.Deep.RegionHeld3
namespace Go.Proofs.Ytgjajdejjiiocaa.Q
open Go.RowKit Go.Proofs.YtgjajdejjiiocaaW.PrintWords Go.Proofs.YtgjajdejjiiocaaW.PrintLast Go.Proofs.Ytgjajdejjiiocaa.Sep
set_option linter.unusedVariables false
set_option linter.unusedSimpArgs false
/-- What Close leaves and tells. -/
def closeS (S : List (Option Fl)) (h : Int) : List (Option Fl) × Int × Bool × Int :=
  if (getS S h).2 = 0 then (S.set h.toNat none, (getS S h).1.1, ((usersTo (S.set h.toNat none) (getS S h).1.1 32 : Nat) : Int) == 0, 0) else (S, 0, false, (getS S h).2)
theorem closeS_yes {S : List (Option Fl)} {k : Nat} {f : Fl} (h : getS S k = (f, 0)) : closeS S k = (S.set k none, f.1, ((usersTo (S.set k none) f.1 32 : Nat) : Int) == 0, 0) := by
  unfold closeS
  rw [h, if_pos rfl, Int.toNat_natCast]
theorem closeS_no {S : List (Option Fl)} {h : Int} (hg : getS S h = ((0, 0, 0), 9)) : closeS S h = (S, 0, false, 9) := by
  unfold closeS
  rw [hg, if_neg (by decide)]
section
variable {w : World} {B t : Nat} {as_ : List (Option Nat)} {S : List (Option Fl)}
theorem close_bad (h : Int) (v : Option Addr) (e : Int) (he : e = 9 ∨ e = 14) (hg : Calls Try.prog 24 #[.pointer v, .int .i64 h] w fun e1 w'' => e1 = .returned (.tuple #[.pointer none, .int .i64 e]) ∧ w = w'') : Calls Try.prog 10 #[.pointer v, .int .i64 h] w fun e1 w' => e1 = .returned (.tuple #[.int .i64 0, .bool false, .int .i64 e]) ∧ w = w' := by
  have hgs := Aside0.mk hg
  clear hg
  rcases he with rfl | rfl
  all_goals
    go_enter Try.func10, Try.ntmps10
    go_wp2_with (go_at_call 24; (with_reducible refine hgs.out.mono ?_); rintro e w' ⟨rfl, rfl⟩)
    go_ret3
    exact ⟨rfl, rfl⟩
set_option maxHeartbeats 1000000 in
theorem close_some (k : Nat) (f : Fl) (a : Nat) (hk : k < 32) (hT : Tab w B t as_ S) (ha : as_[k]? = some (some a)) (hs : S[k]? = some (some f)) (hB : B ≤ w.heap.size) : Calls Try.prog 10 #[.pointer (some ⟨t, 0, none⟩), .int .i64 k] w (TabPost B t w as_ (S.set k none) (.tuple #[.int .i64 f.1, .bool (((usersTo (S.set k none) f.1 32 : Nat) : Int) == 0), .int .i64 0])) := by
  obtain ⟨hba, f', hf', hc⟩ := hT.file k a ha
  rw [hs] at hf'
  cases hf'
  have hcell := hT.cell_some ha
  have hfr := frozen_of hT.blk k
  have HT := Aside0.mk (hT.shut hk)
  have HF := Aside0.mk (Fr.shut (t := t) (as_ := as_) (w := w) (i := k) (.pointer none))
  have HO := Aside0.mk ((Only.refl B XT w).set (i := k) hT.blk hT.base rfl (.pointer none))
  have hi : (w.setCell ⟨t, k, none⟩ (.pointer none)).cell? ⟨a, 0, none⟩ = some (.int .i64 f.1) := cell_of (heap_set_ne _ hc (hT.ne hc).symm) rfl
  have hsz : B ≤ (w.setCell ⟨t, k, none⟩ (.pointer none)).heap.size := Nat.le_trans hB HO.out.below.size
  have HU := Aside0.mk (fun W' (e : W'.heap = (w.setCell ⟨t, k, none⟩ (.pointer none)).heap) => users_calls (w := W') f.1 (HT.out.any e) (by rw [e]; exact hsz))
  have ha1 : a < (w.setCell ⟨t, k, none⟩ (.pointer none)).heap.size := World.block_lt_of_cell? _ _ hi
  clear hT ha hs hba hc
  obtain ⟨bv, hbv⟩ : ∃ bv, (((usersTo (S.set k none) f.1 32 : Nat) : Int) == 0) = bv := ⟨_, rfl⟩
  rw [hbv]
  have HV := Aside0.mk hbv
  clear hbv
  go_enter Try.func10, Try.ntmps10
  go_wp2_with (go_at_call 24; (with_reducible refine (get_some k a hk (by exact hcell)).mono ?_); rintro e w' ⟨rfl, rfl⟩)
  clear hcell hfr
  generalize w.setCell ⟨t, k, none⟩ (.pointer none) = W at *
  generalize hn : usersTo (S.set k none) f.1 32 = n at *
  have HN := Aside0.mk hn
  clear hn
  go_region_held3 (fun w' => w'.cell? ⟨a, 0, none⟩ = some (.int .i64 f.1)) ((first | go_keep | (rw [hb.out.cell (p := ⟨a, 0, none⟩) (by first | exact ha1 | simpa using ha1)]; assumption)))
    ((go_at_call 19; refine (HU.out _ ?_).mono ?_; rfl; rintro e w' ⟨rfl, hb⟩; have hb := Aside0.mk hb))
  go_wp2
  go_ret3
  have hB2 := hb.out
  have hS2 := hB2.size
  refine ⟨by rw [← HV.out]; rfl, ⟨_, (HT.out.any (w' := W.drew) rfl).below hB2 hsz, HF.out.trans (fun b o hb ha => Fr.below hB2 b o hb ha)⟩, HO.out.trans ?_⟩
  exact (Only.refl B XT W).drew.trans (Only.of_below hB2 hsz)
theorem close_calls (h : Int) (hT : Tab w B t as_ S) (hB : B ≤ w.heap.size) : Calls Try.prog 10 #[.pointer (some ⟨t, 0, none⟩), .int .i64 h] w (TabPost B t w as_ (closeS S h).1 (.tuple #[.int .i64 (closeS S h).2.1, .bool (closeS S h).2.2.1, .int .i64 (closeS S h).2.2.2])) := by
  by_cases h0 : 0 ≤ h ∧ h < 32
  · obtain ⟨k, rfl⟩ := Int.eq_ofNat_of_zero_le h0.1
    have hk : k < 32 := by omega
    rcases hT.at_ hk with ⟨ha, hs⟩ | ⟨a, f, ha, hs, hba, hc⟩
    · have : getS S k = ((0, 0, 0), 9) := by
        unfold getS
        rw [if_pos h0.1, Int.toNat_natCast, hs]
      rw [closeS_no this]
      refine (close_bad _ _ 9 (.inl rfl) (get_none k hk (hT.cell_none ha))).mono ?_
      rintro e w' ⟨rfl, rfl⟩
      exact ⟨rfl, ⟨_, hT, Fr.refl⟩, Only.refl _ _ _⟩
    · have : getS S k = (f, 0) := by
        unfold getS
        rw [if_pos h0.1, Int.toNat_natCast, hs]
      rw [closeS_yes this]
      exact close_some k f a hk hT ha hs hB
  · have : getS S h = ((0, 0, 0), 9) := by
      unfold getS
      split
      · have : S[h.toNat]? = none := List.getElem?_eq_none (by rw [hT.ls]; omega)
        rw [this]
      · rfl
    rw [closeS_no this]
    refine (close_bad _ _ 9 (.inl rfl) (get_out h (by omega))).mono ?_
    rintro e w' ⟨rfl, rfl⟩
    exact ⟨rfl, ⟨_, hT, Fr.refl⟩, Only.refl _ _ _⟩
theorem close_nil (h : Int) (w : World) : Calls Try.prog 10 #[.pointer none, .int .i64 h] w fun e1 w' => e1 = .returned (.tuple #[.int .i64 0, .bool false, .int .i64 14]) ∧ w = w' := close_bad _ _ 14 (.inr rfl) (get_nil h)
end
end Go.Proofs.Ytgjajdejjiiocaa.Q
