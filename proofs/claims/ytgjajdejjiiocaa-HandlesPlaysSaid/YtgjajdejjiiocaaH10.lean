/- The chapter's examples; what a nil table says. -/
import Derived.Test.YtgjajdejjiiocaaH9
namespace Go.Proofs.Ytgjajdejjiiocaa.Q
open Go.RowKit Go.Proofs.YtgjajdejjiiocaaW.PrintWords Go.Proofs.YtgjajdejjiiocaaW.PrintLast Go.Proofs.Ytgjajdejjiiocaa.Sep
set_option linter.unusedVariables false
set_option linter.unusedSimpArgs false
def S1 : List (Option Fl) := S0.set 0 (some (5, 1, 0))
def S2 : List (Option Fl) := S1.set 1 (some (5, 1, 0))
def S3 : List (Option Fl) := S2.set 0 none
def S4 : List (Option Fl) := S3.set 0 (some (6, 1, 0))
def S5 : List (Option Fl) := S4.set 1 (some (5, 1, 8))
theorem o1 : openS S0 5 1 = (S1, 0, 0) := by decide +kernel
theorem o2 : openS S1 5 1 = (S2, 1, 0) := by decide +kernel
theorem o3 : closeS S2 0 = (S3, 5, false, 0) := by decide +kernel
theorem o4 : openS S3 6 1 = (S4, 0, 0) := by decide +kernel
theorem o5 : seekS S4 1 (-1) 2 9 = (S5, 8, 0) := by decide +kernel
theorem o6 : seekS S5 1 (-1) 0 9 = (S5, 0, 22) := by decide +kernel
theorem offs_set {S : List (Option Fl)} (h : Offs S) (k : Nat) (f : Fl) (hf : 0 ≤ f.2.2 ∧ f.2.2 ≤ 16384) : Offs (S.set k (some f)) := by
  intro i g hg
  rw [List.getElem?_set] at hg
  split at hg
  · split at hg
    · cases hg; exact hf
    · cases hg
  · exact h i g hg
theorem offs_none {S : List (Option Fl)} (h : Offs S) (k : Nat) : Offs (S.set k none) := by
  intro i g hg
  rw [List.getElem?_set] at hg
  split at hg
  · split at hg <;> simp at hg
  · exact h i g hg
theorem offs0 : Offs S0 := by
  intro i g hg
  unfold S0 at hg
  rw [List.getElem?_replicate] at hg
  split at hg <;> simp at hg
theorem offs4 : Offs S4 := offs_set (offs_none (offs_set (offs_set offs0 _ _ (by decide)) _ _ (by decide)) _) _ _ (by decide)
theorem offs5 : Offs S5 := offs_set offs4 _ _ (by decide)
/-- Open, whatever is asked. -/
theorem open_calls {w : World} {B t : Nat} {as_ : List (Option Nat)} {S : List (Option Fl)} (ino fl : Int) (hT : Tab w B t as_ S) (hB : B ≤ w.heap.size) : Calls Try.prog 9 #[.pointer (some ⟨t, 0, none⟩), .int .i64 ino, .int .i64 fl] w (TabPost B t w as_ (openS S ino fl).1 (.tuple #[.int .i64 (openS S ino fl).2.1, .int .i64 (openS S ino fl).2.2])) := by
  rcases flags_e fl with h | h
  · by_cases hi : ino < 1 ∨ 4096 < ino
    · have : openS S ino fl = (S, 0, 22) := by unfold openS; rw [h, if_neg (by decide), if_pos hi]
      rw [this]
      exact open_ino ino fl hT hB h hi
    · exact open_go ino fl hT hB h (by omega) (by omega)
  · have : openS S ino fl = (S, 0, 22) := by unfold openS; rw [h, if_pos (by decide)]
    rw [this]
    exact open_flags ino fl hT hB h
theorem open_nil (ino fl : Int) (w : World) : Calls Try.prog 9 #[.pointer none, .int .i64 ino, .int .i64 fl] w fun e w' => e = .returned (.tuple #[.int .i64 0, .int .i64 14]) ∧ w = w' := by
  go_enter Try.func9, Try.ntmps9
  go_wp2
  go_ret2
  exact ⟨rfl, rfl⟩
/-- A contract at a state whose answer is known. -/
theorem TabPost.at_ {B t : Nat} {w w' : World} {as_ : List (Option Nat)} {S S' : List (Option Fl)} {v v' : Value} {e : Ending} (h : TabPost B t w as_ S v e w') (hS : S = S') (hv : v = v') : TabPost B t w as_ S' v' e w' := by subst hS hv; exact h
set_option maxHeartbeats 1000000 in
theorem alive_calls (w : World) : Calls Try.prog 8 #[] w (RetPost w (.bool true)) := by
  have c1 := fun (w' : World) (t : Nat) (as_ : List (Option Nat)) (hT : Tab w' w.heap.size t as_ S0) (hB : w.heap.size ≤ w'.heap.size) => (open_calls 5 1 hT hB).mono (fun e w'' h => TabPost.at_ h (S' := S1) (v' := .tuple #[.int .i64 0, .int .i64 0]) (by rw [o1]) (by rw [o1]))
  have c2 := fun (w' : World) (t : Nat) (as_ : List (Option Nat)) (hT : Tab w' w.heap.size t as_ S1) (hB : w.heap.size ≤ w'.heap.size) => (open_calls 5 1 hT hB).mono (fun e w'' h => TabPost.at_ h (S' := S2) (v' := .tuple #[.int .i64 1, .int .i64 0]) (by rw [o2]) (by rw [o2]))
  have c3 := fun (w' : World) (t : Nat) (as_ : List (Option Nat)) (hT : Tab w' w.heap.size t as_ S2) (hB : w.heap.size ≤ w'.heap.size) => (close_calls 0 hT hB).mono (fun e w'' h => TabPost.at_ h (S' := S3) (v' := .tuple #[.int .i64 5, .bool false, .int .i64 0]) (by rw [o3]) (by rw [o3]))
  have c4 := fun (w' : World) (t : Nat) (as_ : List (Option Nat)) (hT : Tab w' w.heap.size t as_ S3) (hB : w.heap.size ≤ w'.heap.size) => (open_calls 6 1 hT hB).mono (fun e w'' h => TabPost.at_ h (S' := S4) (v' := .tuple #[.int .i64 0, .int .i64 0]) (by rw [o4]) (by rw [o4]))
  have c5 := fun (w' : World) (t : Nat) (as_ : List (Option Nat)) (hT : Tab w' w.heap.size t as_ S4) => (seek_calls 1 (-1) 2 9 hT offs4 (by decide) (by decide)).mono (fun e w'' h => TabPost.at_ h (S' := S5) (v' := .tuple #[.int .i64 8, .int .i64 0]) (by rw [o5]) (by rw [o5]))
  have c6 := fun (w' : World) (t : Nat) (as_ : List (Option Nat)) (hT : Tab w' w.heap.size t as_ S5) => (seek_calls 1 (-1) 0 9 hT offs5 (by decide) (by decide)).mono (fun e w'' h => TabPost.at_ h (S' := S5) (v' := .tuple #[.int .i64 0, .int .i64 22]) (by rw [o6]) (by rw [o6]))
  have C1 := Aside0.mk c1; have C2 := Aside0.mk c2; have C3 := Aside0.mk c3; have C4 := Aside0.mk c4; have C5 := Aside0.mk c5; have C6 := Aside0.mk c6
  clear c1 c2 c3 c4 c5 c6
  go_enter Try.func8, Try.ntmps8
  go_wp2_with (go_at_call 7; (with_reducible refine (New_calls _).mono ?_); rintro e w1 ⟨t, rfl, ⟨as1, T1⟩, b1⟩; have HT := Aside0.mk T1; have HB := Aside0.mk b1; clear T1 b1)
  refine (C1.out _ t _ HT.out HB.out.size).mono ?_
  rintro e w2 ⟨rfl, ⟨as2, T2, _⟩, b2⟩
  have HT2 := Aside0.mk T2; have HB2 := Aside0.mk (HB.out.trans b2.below); clear T2 b2
  go_wp2_with fail
  refine (C2.out _ t _ HT2.out HB2.out.size).mono ?_
  rintro e w3 ⟨rfl, ⟨as3, T2, _⟩, b2⟩
  have HT3 := Aside0.mk T2; have HB3 := Aside0.mk (HB2.out.trans b2.below); clear T2 b2
  go_wp2_with fail
  refine (C3.out _ t _ HT3.out HB3.out.size).mono ?_
  rintro e w4 ⟨rfl, ⟨as4, T2, _⟩, b2⟩
  have HT4 := Aside0.mk T2; have HB4 := Aside0.mk (HB3.out.trans b2.below); clear T2 b2
  go_wp2_with fail
  refine (C4.out _ t _ HT4.out HB4.out.size).mono ?_
  rintro e w5 ⟨rfl, ⟨as5, T2, _⟩, b2⟩
  have HT5 := Aside0.mk T2; have HB5 := Aside0.mk (HB4.out.trans b2.below); clear T2 b2
  go_wp2_with fail
  refine (C5.out _ t _ HT5.out).mono ?_
  rintro e w6 ⟨rfl, ⟨as6, T2, _⟩, b2⟩
  have HT6 := Aside0.mk T2; have HB6 := Aside0.mk (HB5.out.trans b2.below); clear T2 b2
  go_wp2_with fail
  refine (C6.out _ t _ HT6.out).mono ?_
  rintro e w7 ⟨rfl, ⟨as7, T2, _⟩, b2⟩
  have HB7 := Aside0.mk (HB6.out.trans b2.below); clear T2 b2
  go_wp2
  go_ret
  exact ⟨rfl, HB7.out⟩
end Go.Proofs.Ytgjajdejjiiocaa.Q
