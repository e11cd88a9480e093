/- The program's table: Users. -/
import Derived.Test.YtgjajdejjiiocaaH4
import Derived.Test.YtgjajdejjiiocaaS1
namespace Go.Proofs.Ytgjajdejjiiocaa.Q
open Go.RowKit Go.Proofs.YtgjajdejjiiocaaW.PrintWords Go.Proofs.YtgjajdejjiiocaaW.PrintLast Go.Proofs.Ytgjajdejjiiocaa.Sep
set_option linter.unusedVariables false
set_option linter.unusedSimpArgs false
def isOf (S : List (Option Fl)) (ino i : Int) : Bool := match S[i.toNat]? with
  | some (some f) => f.1 == ino
  | _ => false
/-- How many of the open files are of an inode. -/
def usersTo (S : List (Option Fl)) (ino : Int) (k : Nat) : Nat := ((numsTo S k).filter (isOf S ino)).length
theorem usersTo_some {S : List (Option Fl)} {k : Nat} {f : Fl} (ino : Int) (h : S[k]? = some (some f)) : usersTo S ino (k + 1) = usersTo S ino k + if f.1 = ino then 1 else 0 := by
  unfold usersTo
  rw [numsTo_some h, List.filter_append, List.length_append]
  congr 1
  have : isOf S ino (k : Int) = (f.1 == ino) := by
    unfold isOf
    rw [Int.toNat_natCast, h]
  by_cases e : f.1 = ino
  · rw [List.filter_cons_of_pos (by rw [this]; simpa using e), if_pos e]; rfl
  · rw [List.filter_cons_of_neg (by rw [this]; simpa using e), if_neg e]; rfl
theorem usersTo_none {S : List (Option Fl)} {k : Nat} (ino : Int) (h : S[k]? = some none) : usersTo S ino (k + 1) = usersTo S ino k := by
  unfold usersTo
  rw [numsTo_none h]
theorem usersTo_le (S : List (Option Fl)) (ino : Int) (k : Nat) : usersTo S ino k ≤ k :=
  Nat.le_trans (List.length_filter_le _ _) (numsTo_len S k)
theorem numsTo_at {S : List (Option Fl)} : ∀ (k j : Nat) (x : Int), (numsTo S k)[j]? = some x → ∃ m : Nat, x = (m : Int) ∧ m < k ∧ ∃ f, S[m]? = some (some f)
  | 0, j, x, h => by simp [numsTo] at h
  | k + 1, j, x, h => by
    have old : (numsTo S k)[j]? = some x → ∃ m : Nat, x = (m : Int) ∧ m < k + 1 ∧ ∃ f, S[m]? = some (some f) := fun h => by
      obtain ⟨m, h1, h2, h3⟩ := numsTo_at k j x h
      exact ⟨m, h1, by omega, h3⟩
    rw [numsTo] at h
    split at h
    · rename_i f hf
      rw [List.getElem?_append] at h
      split at h
      · exact old h
      · have hj : j - (numsTo S k).length = 0 := by
          have := (List.getElem?_eq_some_iff.1 h).1
          simp at this
          omega
        rw [hj] at h
        simp at h
        exact ⟨k, h.symm, by omega, f, hf⟩
    · rw [List.append_nil] at h
      exact old h
theorem row_at {w : World} {base n c : Nat} {ok : Nat → Prop} {A : Option Addr} {xs : List Int} (h : Kd.R (Kd.int .i64) 3 w base ok (.slice A n c) xs) : n = xs.length ∧ ∃ b off, ∀ j x, xs[j]? = some x → A = some ⟨b, off, none⟩ ∧ w.cell? ⟨b, off + j, none⟩ = some (.int .i64 x) := by
  obtain ⟨hn, hc, hC⟩ := Kd.R_reads' h
  refine ⟨hn, ?_⟩
  have hs : Src (Value.int .i64) w [] A xs := Src.of_C (h1 := fun _ => rfl) hC
  rcases hs with hs | ⟨b, off, hA, hs⟩
  · subst hs
    exact ⟨0, 0, fun j x hx => by simp at hx⟩
  · refine ⟨b, off, fun j x hx => ⟨hA, ?_⟩⟩
    rcases hs with ⟨_, hs⟩ | ⟨cs, ty, fz, hm, _⟩
    · exact hs j x hx
    · simp at hm
def IntPost (w : World) (n : Int) (e : Ending) (w' : World) : Prop := e = .returned (.int .i64 n) ∧ Below w.heap.size w w'
section
variable {w : World} {B t : Nat} {as_ : List (Option Nat)} {S : List (Option Fl)}
theorem users_nil (ino : Int) (w : World) : Calls Try.prog 19 #[.pointer none, .int .i64 ino] w (IntPost w 0) := by
  go_enter Try.func19, Try.ntmps19
  go_wp2_with (go_at_call 11; (with_reducible refine (numbers_nil _).mono ?_); rintro e w1 ⟨v, rfl, hr, hb⟩; obtain ⟨A, c, rfl⟩ := Kd.R_slice hr; clear hr)
  go_loop [5, 11] (fun n i => n = .int .i64 0 ∧ i = .int .i64 0) (fun _ _ => 0)
  case atStart => exact ⟨rfl, rfl⟩
  case round =>
    obtain ⟨rfl, rfl⟩ := hrel
    go_wp2
    go_ret
    exact ⟨rfl, hb⟩
theorem take_filter (l : List Int) (p : Int → Bool) (j : Nat) (x : Int) (h : l[j]? = some x) : ((l.take (j + 1)).filter p).length = ((l.take j).filter p).length + if p x = true then 1 else 0 := by
  rw [List.take_add_one, h, List.filter_append, List.length_append]
  congr 1
  simp only [Option.toList]
  by_cases e : p x = true
  · rw [List.filter_cons_of_pos e, if_pos e]; rfl
  · rw [List.filter_cons_of_neg e, if_neg e]; rfl
set_option maxHeartbeats 1000000 in
theorem users_calls (ino : Int) (hT : Tab w B t as_ S) (hB : B ≤ w.heap.size) : Calls Try.prog 19 #[.pointer (some ⟨t, 0, none⟩), .int .i64 ino] w (IntPost w (usersTo S ino 32)) := by
  have HT := Aside0.mk hT
  clear hT
  go_enter Try.func19, Try.ntmps19
  go_wp2_with (go_at_call 11; (with_reducible refine (numbers_calls HT.out hB).mono ?_); rintro e w1 ⟨v, rfl, hr, hb⟩; obtain ⟨A, c, rfl⟩ := Kd.R_slice hr; have HR := Aside0.mk (row_at hr).2; have HW := Aside0.mk hb; clear hr hb)
  have HT1 := Aside0.mk (HT.out.below HW.out hB)
  have hlen : (numsTo S 32).length ≤ 32 := numsTo_len S 32
  have HF : Aside0 (usersTo S ino 32 = (((numsTo S 32).take (numsTo S 32).length).filter (isOf S ino)).length) := ⟨by rw [List.take_length]; rfl⟩
  have HA := Aside0.mk (fun j x => numsTo_at (S := S) 32 j x)
  generalize numsTo S 32 = l at *
  go_loop [5, 11] (fun n i => ∃ k : Nat, k ≤ l.length ∧ i = .int .i64 k ∧ n = .int .i64 (((l.take k).filter (isOf S ino)).length : Nat)) (fun _ i => l.length - (intOf i).toNat)
  case atStart => exact ⟨0, by omega, rfl, by simp⟩
  case round =>
    obtain ⟨k, hk, rfl, rfl⟩ := hrel
    have hc0 : ((l.take k).filter (isOf S ino)).length ≤ k := Nat.le_trans (List.length_filter_le _ _) (List.length_take_le _ _)
    by_cases hlt : k < l.length
    · have hx : l[k]? = some l[k] := List.getElem?_eq_getElem hlt
      have htf := Aside0.mk (take_filter l (isOf S ino) k _ hx)
      obtain ⟨b, off, hrd⟩ := HR.out
      obtain ⟨rfl, hrc⟩ := hrd k _ hx
      obtain ⟨m, hm, hm32, f, hf⟩ := HA.out k _ hx
      clear hrd hx
      generalize l[k] = x at *
      subst hm
      rcases HT1.out.at_ hm32 with ⟨ha, hs⟩ | ⟨a, f', ha, hs, hba, hc⟩
      · rw [hf] at hs; cases hs
      rw [hf] at hs
      cases hs
      have hcell := HT1.out.cell_some ha
      have hino : w1.cell? ⟨a, 0, none⟩ = some (.int .i64 f.1) := cell_of hc rfl
      have hio : isOf S ino (m : Int) = (f.1 == ino) := by unfold isOf; rw [Int.toNat_natCast, hf]
      rw [hio] at htf
      clear hio hf ha hc hba
      generalize ((l.take k).filter (isOf S ino)).length = n0 at *
      obtain ⟨n1, hn1⟩ : ∃ n1, ((l.take (k + 1)).filter (isOf S ino)).length = n1 := ⟨_, rfl⟩
      rw [hn1] at htf
      have HN1 := Aside0.mk hn1
      clear hn1
      by_cases hf1 : f.1 = ino
      · have htf2 : Aside0 (n1 = n0 + 1) := ⟨by rw [htf.out, if_pos (by simpa using hf1)]⟩
        clear htf
        go_wp2
        go_round
        case rel => exact ⟨k + 1, by omega, by go_num, by rw [HN1.out, htf2.out]; go_num⟩
        case measure => simp [intOf]; omega
      · have htf2 : Aside0 (n1 = n0) := ⟨by rw [htf.out, if_neg (by simpa using hf1)]; rfl⟩
        clear htf
        go_wp2
        go_round
        case rel => exact ⟨k + 1, by omega, by go_num, by rw [HN1.out, htf2.out]⟩
        case measure => simp [intOf]; omega
    · obtain rfl : k = l.length := by omega
      clear hc0
      rw [← HF.out]
      generalize usersTo S ino 32 = u at *
      go_wp2
      go_ret
      exact ⟨rfl, HW.out⟩
end
end Go.Proofs.Ytgjajdejjiiocaa.Q
