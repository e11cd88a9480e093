/- The document's table: Open, Close, Seek, Move. -/
import Derived.Test.YtgjajdejjiiocaaH12
namespace Go.Proofs.Ytgjajdejjiiocaa.Q
open Go.RowKit Go.Proofs.YtgjajdejjiiocaaW.PrintWords Go.Proofs.YtgjajdejjiiocaaW.PrintLast Go.Proofs.Ytgjajdejjiiocaa.Sep
set_option linter.unusedVariables false
set_option linter.unusedSimpArgs false
def DabPost (B d lb : Nat) (w : World) (S : List (Option Fl)) (v : Value) (e : Ending) (w' : World) : Prop := e = .returned v ∧ Dab w' B d lb S ∧ Only B XD w w'
theorem DabPost.at_ {B d lb : Nat} {w w' : World} {S S' : List (Option Fl)} {v v' : Value} {e : Ending} (h : DabPost B d lb w S v e w') (hS : S = S') (hv : v = v') : DabPost B d lb w S' v' e w' := by subst hS hv; exact h
theorem Only.drawn {B : Nat} {X : TypeId → Bool} {w w' : World} (h : Drawn0 w w') : Only B X w w' := by
  obtain ⟨n, rfl⟩ := h
  exact (Only.refl _ _ _).drewN n
theorem Dab.drawn {w w' : World} {B d lb : Nat} {S : List (Option Fl)} (h : Dab w B d lb S) (k : Drawn0 w w') : Dab w' B d lb S := by
  obtain ⟨n, rfl⟩ := k
  exact h.any rfl
theorem slots_off : ∀ (S : List (Option Fl)) (i : Nat) (f : Fl) (n : Int), S[i]? = some (some f) → (slots S).set (i * 4 + 3) (.int .i64 n) = slots (S.set i (some (f.1, f.2.1, n)))
  | [], i, f, n, h => by simp at h
  | x :: S, 0, f, n, h => by
    simp at h
    subst h
    unfold slots
    rw [List.set_cons_zero, List.flatMap_cons, List.flatMap_cons]
    rfl
  | x :: S, i + 1, f, n, h => by
    have ih := slots_off S i f n (by simpa using h)
    unfold slots at ih ⊢
    rw [List.set_cons_succ, List.flatMap_cons, List.flatMap_cons]
    rw [show (i + 1) * 4 + 3 = (sl x).length + (i * 4 + 3) by rw [sl_len]; omega, set_app, ih]
theorem Dab.moved {w : World} {B d lb : Nat} {S : List (Option Fl)} (h : Dab w B d lb S) {i : Nat} {f : Fl} (hf : S[i]? = some (some f)) (n : Int) : Dab (w.setCell ⟨lb, i * 4 + 3, none⟩ (.int .i64 n)) B d lb (S.set i (some (f.1, f.2.1, n))) ∧ Only B XD w (w.setCell ⟨lb, i * 4 + 3, none⟩ (.int .i64 n)) := by
  have h1 := heap_set (i := i * 4 + 3) (.int .i64 n) h.hl
  rw [slots_off S i f n hf] at h1
  exact ⟨⟨by simp [h.ls], heap_set_ne _ h.hd h.ne, h1, h.based, h.basel⟩, (Only.refl B XD w).set h.hl h.basel rfl _⟩
section
variable {w : World} {B d lb : Nat} {S : List (Option Fl)}
theorem Dopen_nil (ino fl : Int) (w : World) : Calls Try.prog 13 #[.pointer none, .int .i64 ino, .int .i64 fl] w fun e w' => e = .returned (.tuple #[.int .i64 0, .int .i64 14]) ∧ w = w' := by
  go_enter Try.func13, Try.ntmps13
  go_wp2
  go_ret2
  exact ⟨rfl, rfl⟩
theorem Dopen_flags (ino fl : Int) (hD : Dab w B d lb S) (hE : flagsE fl = 22) : Calls Try.prog 13 #[.pointer (some ⟨d, 0, none⟩), .int .i64 ino, .int .i64 fl] w (DabPost B d lb w S (.tuple #[.int .i64 0, .int .i64 22])) := by
  have HF := Aside0.mk (hE ▸ flags_f fl)
  clear hE
  go_enter Try.func13, Try.ntmps13
  go_wp2_with (go_at_call 25; (with_reducible refine (pumiceref21_Flags.calls fl 22 _ HF.out).mono ?_); rintro e w1 ⟨rfl, hb⟩)
  go_ret2
  exact ⟨rfl, hD.drawn hb, Only.drawn hb⟩
theorem Dopen_ino (ino fl : Int) (hD : Dab w B d lb S) (hE : flagsE fl = 0) (hi : ino < 1 ∨ 4096 < ino) : Calls Try.prog 13 #[.pointer (some ⟨d, 0, none⟩), .int .i64 ino, .int .i64 fl] w (DabPost B d lb w S (.tuple #[.int .i64 0, .int .i64 22])) := by
  have HF := Aside0.mk (hE ▸ flags_f fl)
  clear hE
  rcases hi with hi | hi
  · go_enter Try.func13, Try.ntmps13
    go_wp2_with (go_at_call 25; (with_reducible refine (pumiceref21_Flags.calls fl 0 _ HF.out).mono ?_); rintro e w1 ⟨rfl, hb⟩)
    go_ret2
    exact ⟨rfl, hD.drawn hb, Only.drawn hb⟩
  · have : ¬ ino < 1 := by omega
    go_enter Try.func13, Try.ntmps13
    go_wp2_with (go_at_call 25; (with_reducible refine (pumiceref21_Flags.calls fl 0 _ HF.out).mono ?_); rintro e w1 ⟨rfl, hb⟩)
    go_ret2
    exact ⟨rfl, hD.drawn hb, Only.drawn hb⟩
set_option maxHeartbeats 1000000 in
theorem Dopen_go (ino fl : Int) (hD : Dab w B d lb S) (hE : flagsE fl = 0) (hi1 : 1 ≤ ino) (hi2 : ino ≤ 4096) : Calls Try.prog 13 #[.pointer (some ⟨d, 0, none⟩), .int .i64 ino, .int .i64 fl] w (DabPost B d lb w (openS S ino fl).1 (.tuple #[.int .i64 (openS S ino fl).2.1, .int .i64 (openS S ino fl).2.2])) := by
  have HF := Aside0.mk (hE ▸ flags_f fl)
  have HE := Aside0.mk hE
  clear hE
  have g1 : ¬ ino < 1 := by omega
  have g2 : ¬ ino > 4096 := by omega
  go_enter Try.func13, Try.ntmps13
  go_wp2_with (go_at_call 25; (with_reducible refine (pumiceref21_Flags.calls fl 0 _ HF.out).mono ?_); rintro e w1 ⟨rfl, hb⟩; have HD := Aside0.mk (hD.drawn hb); have HO := Aside0.mk (Only.drawn (B := B) (X := XD) hb); clear hD hb)
  go_loop [9] (fun i => ∃ k : Nat, k ≤ 32 ∧ k ≤ leastN S ∧ i = .int .i64 k) (fun i => 32 - (intOf i).toNat)
  case atStart => exact ⟨0, by omega, by omega, rfl⟩
  case round =>
    obtain ⟨k, hk, hl, rfl⟩ := hrel
    have p0 := HD.out.lcell
    by_cases hlt : k < 32
    · rcases HD.out.at_ hlt with hs | ⟨f, hs⟩
      · have c0 := HD.out.cell0 hs rfl
        have c1 := HD.out.cell hs 1 (by decide) rfl
        have c2 := HD.out.cell hs 2 (by decide) rfl
        have c3 := HD.out.cell hs 3 (by decide) rfl
        have f0 := frozen_of HD.out.hl (k * 4)
        have f1 := frozen_of HD.out.hl (k * 4 + 1)
        have f2 := frozen_of HD.out.hl (k * 4 + 2)
        have f3 := frozen_of HD.out.hl (k * 4 + 3)
        have hk2 := Aside0.mk (leastN_none hs hl)
        have hfin := Aside0.mk (HD.out.put hlt (some (ino, fl, 0)) rfl)
        clear hs
        go_wp2
        go_ret2
        unfold openS
        rw [HE.out, if_neg (by simp), if_neg (by omega), if_pos (by have := hk2.out; omega), ← hk2.out]
        exact ⟨rfl, hfin.out.1, HO.out.trans hfin.out.2⟩
      · have c0 := HD.out.cell0 hs rfl
        have hl2 := leastN_some hs hl
        clear hs
        go_wp2
        go_round
        case rel => exact ⟨k + 1, by omega, hl2, by go_num⟩
        case measure => simp [intOf]; omega
    · go_wp2
      go_ret2
      unfold openS
      rw [HE.out, if_neg (by simp), if_neg (by omega), if_neg (by omega)]
      exact ⟨rfl, HD.out, HO.out⟩
theorem Dopen_calls (ino fl : Int) (hD : Dab w B d lb S) : Calls Try.prog 13 #[.pointer (some ⟨d, 0, none⟩), .int .i64 ino, .int .i64 fl] w (DabPost B d lb w (openS S ino fl).1 (.tuple #[.int .i64 (openS S ino fl).2.1, .int .i64 (openS S ino fl).2.2])) := by
  rcases flags_e fl with h | h
  · by_cases hi : ino < 1 ∨ 4096 < ino
    · have : openS S ino fl = (S, 0, 22) := by unfold openS; rw [h, if_neg (by decide), if_pos hi]
      rw [this]
      exact Dopen_ino ino fl hD h hi
    · exact Dopen_go ino fl hD h (by omega) (by omega)
  · have : openS S ino fl = (S, 0, 22) := by unfold openS; rw [h, if_pos (by decide)]
    rw [this]
    exact Dopen_flags ino fl hD h
end
end Go.Proofs.Ytgjajdejjiiocaa.Q
