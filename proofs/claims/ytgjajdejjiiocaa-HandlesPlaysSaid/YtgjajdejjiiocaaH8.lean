/- The program's table: Seek, Move, New. -/
import Derived.Test.YtgjajdejjiiocaaH7
namespace Go.Proofs.Ytgjajdejjiiocaa.Q
open Go.RowKit Go.Proofs.YtgjajdejjiiocaaW.PrintWords Go.Proofs.YtgjajdejjiiocaaW.PrintLast Go.Proofs.Ytgjajdejjiiocaa.Sep
set_option linter.unusedVariables false
set_option linter.unusedSimpArgs false
/-- Where an offset goes: from the start, from where it is, from the end. -/
def dest (o n whence z : Int) : Int := if whence = 0 then n else if whence = 1 then o + n else z + n
def goodD (o n whence z : Int) : Bool := decide (0 ≤ whence) && decide (whence ≤ 2) && okO (dest o n whence z)
def seekS (S : List (Option Fl)) (h n whence z : Int) : List (Option Fl) × Int × Int :=
  if (getS S h).2 = 0 then (if goodD (getS S h).1.2.2 n whence z = true then (S.set h.toNat (some ((getS S h).1.1, (getS S h).1.2.1, dest (getS S h).1.2.2 n whence z)), dest (getS S h).1.2.2 n whence z, 0) else (S, 0, 22)) else (S, 0, (getS S h).2)
def moveS (S : List (Option Fl)) (h n : Int) : List (Option Fl) × Int := ((seekS S h n 1 0).1, (seekS S h n 1 0).2.2)
/-- All offsets may be. -/
def Offs (S : List (Option Fl)) : Prop := ∀ (i : Nat) f, S[i]? = some (some f) → 0 ≤ f.2.2 ∧ f.2.2 ≤ 16384
section
variable {w : World} {B t : Nat} {as_ : List (Option Nat)} {S : List (Option Fl)}
theorem seek_bad (h n z wh : Int) (v : Option Addr) (e : Int) (he : e = 9 ∨ e = 14) (hg : Calls Try.prog 24 #[.pointer v, .int .i64 h] w fun e1 w'' => e1 = .returned (.tuple #[.pointer none, .int .i64 e]) ∧ w = w'') : Calls Try.prog 15 #[.pointer v, .int .i64 h, .int .i64 n, .int .i64 wh, .int .i64 z] w fun e1 w' => e1 = .returned (.tuple #[.int .i64 0, .int .i64 e]) ∧ w = w' := by
  have hgs := Aside0.mk hg
  clear hg
  rcases he with rfl | rfl
  all_goals
    go_enter Try.func15, Try.ntmps15
    go_wp2_with (go_at_call 24; (with_reducible refine hgs.out.mono ?_); rintro e w' ⟨rfl, rfl⟩)
    go_ret2
    exact ⟨rfl, rfl⟩
theorem move_bad (h n : Int) (v : Option Addr) (e : Int) (he : e = 9 ∨ e = 14) (hg : Calls Try.prog 24 #[.pointer v, .int .i64 h] w fun e1 w'' => e1 = .returned (.tuple #[.pointer none, .int .i64 e]) ∧ w = w'') : Calls Try.prog 17 #[.pointer v, .int .i64 h, .int .i64 n] w fun e1 w' => e1 = .returned (.int .i64 e) ∧ w = w' := by
  have hgs := Aside0.mk hg
  clear hg
  rcases he with rfl | rfl
  all_goals
    go_enter Try.func17, Try.ntmps17
    go_wp2_with (go_at_call 24; (with_reducible refine hgs.out.mono ?_); rintro e w' ⟨rfl, rfl⟩)
    go_ret
    exact ⟨rfl, rfl⟩
def stepR (ok : Bool) (d : Int) : Int := if ok = true then d else 0
def stepE (ok : Bool) : Int := if ok = true then 0 else 22
/-- One file's offset is turned, or not. -/
def stepW (a : Nat) (w : World) (d : Int) (ok : Bool) : World := if ok = true then w.setCell ⟨a, 2, none⟩ (.int .i64 d) else w
def StepPost (a : Nat) (w : World) (d : Int) (ok : Bool) (e : Ending) (w' : World) : Prop := e = .returned (.tuple #[.int .i64 (stepR ok d), .int .i64 (stepE ok)]) ∧ stepW a w d ok = w'
theorem okO_iff (n : Int) : okO n = true ↔ 0 ≤ n ∧ n ≤ 16384 := by unfold okO; simp
theorem move_any (a : Nat) (f : Fl) (o n : Int) (hc : w.heap[a]? = some (Cl (fcells f) 44)) (h0 : 0 ≤ o ∧ o ≤ 16384) : Calls Try.prog 28 #[.pointer (some ⟨a, 0, none⟩), .int .i64 o, .int .i64 n] w (StepPost a w (o + n) (okO (o + n))) := by
  by_cases h : okO (o + n) = true
  · refine (move_ok a f o n hc h0 ((okO_iff _).1 h)).mono ?_
    rintro e w' ⟨rfl, rfl⟩
    rw [h]
    exact ⟨rfl, rfl⟩
  · refine (move_no a o n h0 (fun h1 => h ((okO_iff _).2 h1))).mono ?_
    rintro e w' ⟨rfl, rfl⟩
    rw [eq_false_of_ne_true h]
    exact ⟨rfl, rfl⟩
theorem end_any (a : Nat) (f : Fl) (n z : Int) (hc : w.heap[a]? = some (Cl (fcells f) 44)) (hn : -9223372036854775808 ≤ n ∧ n ≤ 9223372036854775807) (hz : -9223372036854775808 ≤ z ∧ z ≤ 9223372036854775807) : Calls Try.prog 27 #[.pointer (some ⟨a, 0, none⟩), .int .i64 n, .int .i64 z] w (StepPost a w (z + n) (okO (z + n))) := by
  rw [Int.add_comm z n]
  by_cases h : okO (n + z) = true
  · refine (end_ok a f n z hc ((okO_iff _).1 h)).mono ?_
    rintro e w' ⟨rfl, rfl⟩
    rw [h]
    exact ⟨rfl, rfl⟩
  · refine (end_no a n z hn hz (fun h1 => h ((okO_iff _).2 h1))).mono ?_
    rintro e w' ⟨rfl, rfl⟩
    rw [eq_false_of_ne_true h]
    exact ⟨rfl, rfl⟩
set_option maxHeartbeats 1000000 in
theorem seek_one (k : Nat) (f : Fl) (a : Nat) (n wh z : Int) (hk : k < 32) (hcell : w.cell? ⟨t, k, none⟩ = some (.pointer (some ⟨a, 0, none⟩))) (hc : w.heap[a]? = some (Cl (fcells f) 44)) (h0 : 0 ≤ f.2.2 ∧ f.2.2 ≤ 16384)
    (hn : -9223372036854775808 ≤ n ∧ n ≤ 9223372036854775807) (hz : -9223372036854775808 ≤ z ∧ z ≤ 9223372036854775807) :
    Calls Try.prog 15 #[.pointer (some ⟨t, 0, none⟩), .int .i64 k, .int .i64 n, .int .i64 wh, .int .i64 z] w (StepPost a w (dest f.2.2 n wh z) (goodD f.2.2 n wh z)) := by
  have p2 := cell_of hc (i := 2) rfl
  have hm0 := Aside0.mk (move_any a f 0 n hc (by decide))
  have hm1 := Aside0.mk (move_any a f f.2.2 n hc h0)
  have he := Aside0.mk (end_any a f n z hc hn hz)
  clear hc hn hz h0
  unfold fcells at p2
  generalize hg : goodD f.2.2 n wh z = g
  generalize hd : dest f.2.2 n wh z = d
  have HG := Aside0.mk hg
  have HD := Aside0.mk hd
  clear hg hd
  by_cases h0 : wh = 0
  · subst h0
    go_enter Try.func15, Try.ntmps15
    go_wp2_with (first
      | (go_at_call 24; (with_reducible refine (get_some k a hk (by exact hcell)).mono ?_); rintro e w' ⟨rfl, rfl⟩)
      | (go_at_call 28; (with_reducible refine hm0.out.mono ?_); rintro e w' ⟨rfl, rfl⟩))
    go_ret2
    rw [← HG.out, ← HD.out]
    unfold goodD dest
    rw [if_pos rfl]
    exact ⟨rfl, rfl⟩
  · have h00 : (wh == 0) = false := by simpa using h0
    by_cases h1 : wh = 1
    · subst h1
      go_enter Try.func15, Try.ntmps15
      go_wp2_with (first
        | (go_at_call 24; (with_reducible refine (get_some k a hk (by exact hcell)).mono ?_); rintro e w' ⟨rfl, rfl⟩)
        | (go_at_call 28; (with_reducible refine hm1.out.mono ?_); rintro e w' ⟨rfl, rfl⟩))
      go_ret2
      rw [← HG.out, ← HD.out]
      unfold goodD dest
      rw [if_neg (by decide), if_pos rfl]
      exact ⟨rfl, rfl⟩
    · by_cases h2 : wh = 2
      · subst h2
        go_enter Try.func15, Try.ntmps15
        go_wp2_with (first
          | (go_at_call 24; (with_reducible refine (get_some k a hk (by exact hcell)).mono ?_); rintro e w' ⟨rfl, rfl⟩)
          | (go_at_call 27; (with_reducible refine he.out.mono ?_); rintro e w' ⟨rfl, rfl⟩))
        go_ret2
        rw [← HG.out, ← HD.out]
        unfold goodD dest
        rw [if_neg (by decide), if_neg (by decide)]
        exact ⟨rfl, rfl⟩
      · go_enter Try.func15, Try.ntmps15
        go_wp2_with (go_at_call 24; (with_reducible refine (get_some k a hk (by exact hcell)).mono ?_); rintro e w' ⟨rfl, rfl⟩)
        have : g = false := by
          rw [← HG.out]
          unfold goodD
          by_cases a1 : 0 ≤ wh <;> by_cases a2 : wh ≤ 2 <;> simp [a1, a2]
          omega
        subst this
        go_ret2
        exact ⟨rfl, rfl⟩
set_option maxHeartbeats 1000000 in
theorem move_one (k : Nat) (f : Fl) (a : Nat) (n : Int) (hk : k < 32) (hcell : w.cell? ⟨t, k, none⟩ = some (.pointer (some ⟨a, 0, none⟩))) (hc : w.heap[a]? = some (Cl (fcells f) 44)) (h0 : 0 ≤ f.2.2 ∧ f.2.2 ≤ 16384) :
    Calls Try.prog 17 #[.pointer (some ⟨t, 0, none⟩), .int .i64 k, .int .i64 n] w fun e w' => e = .returned (.int .i64 (stepE (okO (f.2.2 + n)))) ∧ stepW a w (f.2.2 + n) (okO (f.2.2 + n)) = w' := by
  have p2 := cell_of hc (i := 2) rfl
  have hm1 := Aside0.mk (move_any a f f.2.2 n hc h0)
  clear hc h0
  unfold fcells at p2
  go_enter Try.func17, Try.ntmps17
  go_wp2_with (first
    | (go_at_call 24; (with_reducible refine (get_some k a hk (by exact hcell)).mono ?_); rintro e w' ⟨rfl, rfl⟩)
    | (go_at_call 28; (with_reducible refine hm1.out.mono ?_); rintro e w' ⟨rfl, rfl⟩))
  go_ret
  exact ⟨rfl, rfl⟩
end
end Go.Proofs.Ytgjajdejjiiocaa.Q
