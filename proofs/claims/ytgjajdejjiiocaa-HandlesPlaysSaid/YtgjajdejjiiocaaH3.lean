/- The program's table: Open. -/
import Derived.Test.YtgjajdejjiiocaaH1
import Derived.Test.YtgjajdejjiiocaaH2
namespace Go.Proofs.Ytgjajdejjiiocaa.Q
open Go.RowKit Go.Proofs.YtgjajdejjiiocaaW.PrintWords Go.Proofs.YtgjajdejjiiocaaW.PrintLast Go.Proofs.Ytgjajdejjiiocaa.Sep
set_option linter.unusedVariables false
set_option linter.unusedSimpArgs false
def XT (ty : TypeId) : Bool := ty == 52 || ty == 44
/-- How many places from the first on are open. -/
def leastN (S : List (Option Fl)) : Nat := (S.takeWhile Option.isSome).length
theorem leastN_le (S : List (Option Fl)) : leastN S ≤ S.length := by
  unfold leastN
  have := List.takeWhile_prefix (p := Option.isSome) (l := S)
  exact this.length_le
theorem leastN_none {S : List (Option Fl)} {k : Nat} (h : S[k]? = some none) (hk : k ≤ leastN S) : k = leastN S := by
  unfold leastN at *
  induction S generalizing k with
  | nil => simp at h
  | cons x S ih =>
    cases x with
    | none => simp at hk ⊢; omega
    | some f =>
      cases k with
      | zero => simp at h
      | succ k =>
        simp at h hk ⊢
        exact ih h hk
theorem leastN_some {S : List (Option Fl)} {k : Nat} {f : Fl} (h : S[k]? = some (some f)) (hk : k ≤ leastN S) : k + 1 ≤ leastN S := by
  unfold leastN at *
  induction S generalizing k with
  | nil => simp at h
  | cons x S ih =>
    cases x with
    | none =>
      simp at hk
      subst hk
      simp at h
    | some f =>
      cases k with
      | zero => simp
      | succ k =>
        simp at h hk ⊢
        exact ih h hk
def openS (S : List (Option Fl)) (ino fl : Int) : List (Option Fl) × Int × Int :=
  if flagsE fl ≠ 0 then (S, 0, flagsE fl) else if ino < 1 ∨ 4096 < ino then (S, 0, 22) else if leastN S < 32 then (S.set (leastN S) (some (ino, fl, 0)), leastN S, 0) else (S, 0, 24)
def TabPost (B t : Nat) (w : World) (as_ : List (Option Nat)) (S : List (Option Fl)) (v : Value) (e : Ending) (w' : World) : Prop := e = .returned v ∧ (∃ as2, Tab w' B t as2 S ∧ Fr t as_ as2 w w') ∧ Only B XT w w'
section
variable {w : World} {B t : Nat} {as_ : List (Option Nat)} {S : List (Option Fl)}
theorem open_flags (ino fl : Int) (hT : Tab w B t as_ S) (hB : B ≤ w.heap.size) (hE : flagsE fl = 22) : Calls Try.prog 9 #[.pointer (some ⟨t, 0, none⟩), .int .i64 ino, .int .i64 fl] w (TabPost B t w as_ S (.tuple #[.int .i64 0, .int .i64 22])) := by
  have HE := Aside0.mk hE
  clear hE
  go_enter Try.func9, Try.ntmps9
  go_wp2_with (go_at_call 23; (with_reducible refine (flags_calls fl _).mono ?_); rintro e w1 ⟨rfl, hb⟩; rw [HE.out])
  go_ret2
  exact ⟨rfl, ⟨_, hT.below hb hB, Fr.below hb⟩, Only.of_below hb hB⟩
theorem open_ino (ino fl : Int) (hT : Tab w B t as_ S) (hB : B ≤ w.heap.size) (hE : flagsE fl = 0) (hi : ino < 1 ∨ 4096 < ino) : Calls Try.prog 9 #[.pointer (some ⟨t, 0, none⟩), .int .i64 ino, .int .i64 fl] w (TabPost B t w as_ S (.tuple #[.int .i64 0, .int .i64 22])) := by
  have HE := Aside0.mk hE
  clear hE
  rcases hi with hi | hi
  · go_enter Try.func9, Try.ntmps9
    go_wp2_with (go_at_call 23; (with_reducible refine (flags_calls fl _).mono ?_); rintro e w1 ⟨rfl, hb⟩; rw [HE.out])
    go_ret2
    exact ⟨rfl, ⟨_, hT.below hb hB, Fr.below hb⟩, Only.of_below hb hB⟩
  · have : ¬ ino < 1 := by omega
    go_enter Try.func9, Try.ntmps9
    go_wp2_with (go_at_call 23; (with_reducible refine (flags_calls fl _).mono ?_); rintro e w1 ⟨rfl, hb⟩; rw [HE.out])
    go_ret2
    exact ⟨rfl, ⟨_, hT.below hb hB, Fr.below hb⟩, Only.of_below hb hB⟩
theorem open_go (ino fl : Int) (hT : Tab w B t as_ S) (hB : B ≤ w.heap.size) (hE : flagsE fl = 0) (hi1 : 1 ≤ ino) (hi2 : ino ≤ 4096) : Calls Try.prog 9 #[.pointer (some ⟨t, 0, none⟩), .int .i64 ino, .int .i64 fl] w (TabPost B t w as_ (openS S ino fl).1 (.tuple #[.int .i64 (openS S ino fl).2.1, .int .i64 (openS S ino fl).2.2])) := by
  have HE := Aside0.mk hE
  clear hE
  have g1 : ¬ ino < 1 := by omega
  have g2 : ¬ ino > 4096 := by omega
  go_enter Try.func9, Try.ntmps9
  go_wp2_with (go_at_call 23; (with_reducible refine (flags_calls fl _).mono ?_); rintro e w1 ⟨rfl, hb⟩; rw [HE.out]; have HT := Aside0.mk (hT.below hb hB); have HO := Aside0.mk (Only.of_below (X := XT) hb hB); have HF := Aside0.mk (Fr.below (t := t) (as_ := as_) hb); have hB1 : B ≤ w1.heap.size := Nat.le_trans hB hb.size; clear hT hb)
  go_loop [23] (fun i => ∃ k : Nat, k ≤ 32 ∧ k ≤ leastN S ∧ i = .int .i64 k) (fun i => 32 - (intOf i).toNat)
  case atStart => exact ⟨0, by omega, by omega, rfl⟩
  case round =>
    obtain ⟨k, hk, hl, rfl⟩ := hrel
    by_cases hlt : k < 32
    · rcases HT.out.at_ hlt with ⟨ha, hs⟩ | ⟨a, f, ha, hs, hba, hc⟩
      · have hcell := HT.out.cell_none ha
        have hcell2 := cell_of (heap_old (Cl (fcells (ino, fl, 0)) 44) HT.out.blk) (i := k) (v := .pointer none) (by rw [List.getElem?_map, ha]; rfl)
        have hfr2 := frozen_of (heap_old (Cl (fcells (ino, fl, 0)) 44) HT.out.blk) k
        have hfin := Aside0.mk (HT.out.open_ ha (ino, fl, 0) hB1)
        clear ha
        have hk2 := Aside0.mk (leastN_none hs hl)
        clear hs
        unfold fcells at hcell2 hfr2
        go_wp2
        go_ret2
        unfold openS
        rw [HE.out, if_neg (by simp), if_neg (by omega), if_pos (by have := hk2.out; omega), ← hk2.out]
        exact ⟨rfl, ⟨_, hfin.out, HF.out.trans (Fr.opened _ _)⟩, (HO.out.alloc hB1 _).set (heap_old _ HT.out.blk) HT.out.base rfl _⟩
      · have hcell := HT.out.cell_some ha
        have hl2 := leastN_some hs hl
        clear ha hs hc
        go_wp2
        go_round
        case rel => exact ⟨k + 1, by omega, hl2, by go_num⟩
        case measure => simp [intOf]; omega
    · go_wp2
      go_ret2
      unfold openS
      rw [HE.out, if_neg (by simp), if_neg (by omega), if_neg (by omega)]
      exact ⟨rfl, ⟨_, HT.out, HF.out⟩, HO.out⟩
end
end Go.Proofs.Ytgjajdejjiiocaa.Q
