/- The reader of node: (*cursor).next. -/
import Derived.Test.YtakchpeohmkpkaaQ0
import Derived.Test.YtakchpeohmkpkaaS1
namespace Go.Proofs.Ytakchpeohmkpkaa.Q
open Go.RowKit Go.Proofs.YtakchpeohmkpkaaW.PrintWords Go.Proofs.YtakchpeohmkpkaaW.PrintLast Go.Proofs.YtakchpeohmkpkaaW.PrintMore Go.Proofs.Ytakchpeohmkpkaa.Sep
set_option linter.unusedVariables false
set_option linter.unusedSimpArgs false
/-- The bytes that a reader hands out, and where it stands then. -/
def nxt (xs : List Int) (at_ k : Nat) : List Int := if at_ + k ≤ xs.length then (xs.drop at_).take k else []
def pos (xs : List Int) (at_ k : Nat) : Nat := if at_ + k ≤ xs.length then at_ + k else xs.length + 1
theorem nxt_le (xs : List Int) (at_ k : Nat) : (nxt xs at_ k).length ≤ k := by unfold nxt; split <;> simp <;> omega
theorem pos_le (xs : List Int) (at_ k : Nat) : pos xs at_ k ≤ xs.length + 1 := by unfold pos; split <;> omega
/-- The block of a reader. -/
@[reducible] def RdB (A : Option Addr) (c : Nat) (xs : List Int) (at_ : Nat) : Obj := Cl [.slice A xs.length c, .int .i64 at_] 76

set_option maxHeartbeats 8000000 in
set_option maxRecDepth 100000 in
theorem next_short (g : Nat) (A : Option Addr) (c at_ k : Nat) (xs : List Int) (w0 w : World) (H : Frag) (HH : Holds w0 w ((g, RdB A c xs at_) :: H)) (hl : xs.length ≤ 281474976710656) (hat : at_ ≤ xs.length + 1) (hk : k ≤ 1048576)
    (hs : ¬ at_ + k ≤ xs.length) : Calls Try.prog 51 #[.pointer (some ⟨g, 0, none⟩), .int .i64 k] w fun e w' => e = .returned (.slice none 0 0) ∧ Holds w0 w' ((g, RdB A c xs (xs.length + 1)) :: H) := by
  have c0 := HH.cell List.mem_cons_self (i := 0) rfl
  have c1 := HH.cell List.mem_cons_self (i := 1) rfl
  have t0 : decide ((k : Int) < 0) = false := by simp
  have s1 : IntKind.i64.wrap ((xs.length : Int) - (at_ : Int)) = (xs.length : Int) - (at_ : Int) := IntWalk.i64_in _ (by omega)
  have t1 : decide ((xs.length : Int) - (at_ : Int) < (k : Int)) = true := decide_eq_true (by omega)
  have HA := Aside0.mk HH
  clear HH
  go_enter Try.func51, Try.ntmps51
  go_wp2
  go_quiet (fail)
  go_wp2_with (first
    | ((with_reducible apply store_); (case HH => first | exact HA.out | exact HA.out.any rfl rfl rfl rfl); (case hw => rfl); (case hx => rfl); (case hev => conv => lhs; whnf); (case hy => rfl); (case hm => repeat (first | exact Holds.At.here | apply Holds.At.there)); (case hl => rfl); (case hn => kernel_rfl); (case h1 => simp [Value.oneCell']); (case hi => simp); intro w1 HB_; simp only [splice, List.set_cons_zero, List.set_cons_succ] at HB_; clear HA; have HA := Aside0.mk HB_; clear HB_))
  go_ret
  exact ⟨rfl, HA.out⟩
set_option maxHeartbeats 8000000 in
set_option maxRecDepth 100000 in
theorem next_fits (g : Nat) (A : Option Addr) (c at_ k : Nat) (xs : List Int) (w0 w : World) (H : Frag) (HH : Holds w0 w ((g, RdB A c xs at_) :: H)) (hl : xs.length ≤ 281474976710656) (hc : xs.length ≤ c) (hat : at_ ≤ xs.length + 1) (hk : k ≤ 1048576)
    (hs : at_ + k ≤ xs.length) : Calls Try.prog 51 #[.pointer (some ⟨g, 0, none⟩), .int .i64 k] w fun e w' => e = .returned (.slice (if c = at_ then A else A.map (·.add at_)) k (c - at_)) ∧ Holds w0 w' ((g, RdB A c xs (at_ + k)) :: H) := by
  have c0 := HH.cell List.mem_cons_self (i := 0) rfl
  have c1 := HH.cell List.mem_cons_self (i := 1) rfl
  have t0 : decide ((k : Int) < 0) = false := by simp
  have s1 : IntKind.i64.wrap ((xs.length : Int) - (at_ : Int)) = (xs.length : Int) - (at_ : Int) := IntWalk.i64_in _ (by omega)
  have t1 : decide ((xs.length : Int) - (at_ : Int) < (k : Int)) = false := decide_eq_false (by omega)
  have HA := Aside0.mk HH
  clear HH
  go_enter Try.func51, Try.ntmps51
  go_wp2
  go_quiet (fail)
  go_wp2_with (first
    | ((with_reducible apply store_); (case HH => first | exact HA.out | exact HA.out.any rfl rfl rfl rfl); (case hw => rfl); (case hx => rfl); (case hev => conv => lhs; whnf); (case hy => rfl); (case hm => repeat (first | exact Holds.At.here | apply Holds.At.there)); (case hl => rfl); (case hn => kernel_rfl); (case h1 => simp [Value.oneCell']); (case hi => simp); intro w1 HB_; simp only [splice, List.set_cons_zero, List.set_cons_succ] at HB_; clear HA; have HA := Aside0.mk HB_; clear HB_)
    | ((with_reducible apply load1_); (case HH => first | exact HA.out | exact HA.out.any rfl rfl rfl rfl); (case ht => rfl); (case hx => rfl); (case hw => rfl); (case hm => repeat (first | exact List.Mem.head _ | refine List.Mem.tail _ ?_)); (case hv => exact rfl); simp only [Act.put, List.setIfInBounds_toArray, List.set_cons_zero, List.set_cons_succ]))
  clear c0 c1
  have c0 := HA.out.cell List.mem_cons_self (i := 0) rfl
  have c1 := HA.out.cell List.mem_cons_self (i := 1) rfl
  go_quiet (fail)
  go_wp2
  all_goals
    go_ret
    refine ⟨?_, ?_⟩
    · rfl
    · have hh := HA.out.drewN nq
      simp only [RdB, Int.natCast_add]
      first
        | exact hh
        | (rw [‹c = at_›] at hh; exact hh)
/-- What next answers. -/
theorem next_calls (g : Nat) (A : Option Addr) (c at_ k : Nat) (xs : List Int) (w0 w : World) (H Hs : Frag) (HH : Holds w0 w ((g, RdB A c xs at_) :: H)) (hl : xs.length ≤ 281474976710656) (hc : xs.length ≤ c) (hat : at_ ≤ xs.length + 1) (hk : k ≤ 1048576) (hs : Src (Value.int .u8) w0 Hs A xs) :
    Calls Try.prog 51 #[.pointer (some ⟨g, 0, none⟩), .int .i64 k] w fun e w' => ∃ A' c', e = .returned (.slice A' (nxt xs at_ k).length c') ∧ (nxt xs at_ k).length ≤ c' ∧ Src (Value.int .u8) w0 Hs A' (nxt xs at_ k) ∧ Holds w0 w' ((g, RdB A c xs (pos xs at_ k)) :: H) := by
  unfold nxt pos
  by_cases h : at_ + k ≤ xs.length
  · simp only [h, if_true]
    refine (next_fits g A c at_ k xs w0 w H HH hl hc hat hk h).mono fun e w' ⟨he, hw⟩ => ⟨if c = at_ then A else A.map (·.add at_), c - at_, ?_, ?_, ?_, hw⟩
    · rw [he]
      have : ((xs.drop at_).take k).length = k := by simp; omega
      rw [this]
    · simp; omega
    · split
      · have hz : (xs.drop at_).take k = [] := by
          have : k = 0 := by omega
          simp [this]
        rw [hz]
        exact Src.nil _
      · exact (hs.drop at_).take k
  · simp only [h, if_false]
    exact (next_short g A c at_ k xs w0 w H HH hl hat hk h).mono fun e w' ⟨he, hw⟩ => ⟨none, 0, he, by simp, Src.nil _, hw⟩
end Go.Proofs.Ytakchpeohmkpkaa.Q
