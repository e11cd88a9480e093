/- The program's table: Numbers, Users. -/
import Derived.Test.YtgjajdejjiiocaaH3
namespace Go.Proofs.Ytgjajdejjiiocaa.Q
open Go.RowKit Go.Proofs.YtgjajdejjiiocaaW.PrintWords Go.Proofs.YtgjajdejjiiocaaW.PrintLast Go.Proofs.Ytgjajdejjiiocaa.Sep
set_option linter.unusedVariables false
set_option linter.unusedSimpArgs false
/-- The open places below k. -/
def numsTo (S : List (Option Fl)) : Nat → List Int
  | 0 => []
  | k + 1 => numsTo S k ++ match S[k]? with | some (some _) => [(k : Int)] | _ => []
theorem numsTo_some {S : List (Option Fl)} {k : Nat} {f : Fl} (h : S[k]? = some (some f)) : numsTo S (k + 1) = numsTo S k ++ [(k : Int)] := by rw [numsTo, h]
theorem numsTo_none {S : List (Option Fl)} {k : Nat} (h : S[k]? = some none) : numsTo S (k + 1) = numsTo S k := by rw [numsTo, h]; simp
theorem numsTo_len (S : List (Option Fl)) (k : Nat) : (numsTo S k).length ≤ k := by
  induction k with
  | zero => simp [numsTo]
  | succ k ih =>
    rw [numsTo, List.length_append]
    split <;> simp <;> omega
def RowPost (w : World) (xs : List Int) (e : Ending) (w' : World) : Prop := ∃ v, e = .returned v ∧ Kd.R (Kd.int .i64) 3 w' w.heap.size (fun _ => True) v xs ∧ Below w.heap.size w w'
section
variable {w : World} {B t : Nat} {as_ : List (Option Nat)} {S : List (Option Fl)}
theorem numbers_nil (w : World) : Calls Try.prog 11 #[.pointer none] w (RowPost w []) := by
  go_enter Try.func11, Try.ntmps11
  go_wp2
  go_ret
  exact ⟨_, rfl, Kd.R_nil _ _ _ _ _, Below.refl _ _⟩
theorem info3 : (Try.prog.info? 3).map (fun i => (i.zero, i.size, i.bytes)) = some (some (.int .i64 0), 1, 8) := by kernel_rfl
set_option maxHeartbeats 1000000 in
theorem numbers_calls (hT : Tab w B t as_ S) (hB : B ≤ w.heap.size) : Calls Try.prog 11 #[.pointer (some ⟨t, 0, none⟩)] w (RowPost w (numsTo S 32)) := by
  have HT := Aside0.mk hT
  have HL := Aside0.mk (numsTo_len S)
  clear hT
  go_enter Try.func11, Try.ntmps11
  go_wp2
  go_loopw [3, 7] (fun out i wr => ∃ (v : Value) (k : Nat), k ≤ 32 ∧ out = v ∧ i = .int .i64 k ∧ Aside0 (Kd.R (Kd.int .i64) 3 wr w.heap.size (fun _ => True) v (numsTo S k)) ∧ Aside0 (Below w.heap.size w wr)) (fun _ i _ => 32 - (intOf i).toNat)
  case atStart => exact ⟨_, 0, by omega, rfl, rfl, ⟨Kd.R_nil _ _ _ _ _⟩, ⟨Below.refl _ _⟩⟩
  case round =>
    obtain ⟨v, k, hk, rfl, rfl, HR, HW⟩ := hrel
    by_cases hlt : k < 32
    · rcases HT.out.at_ hlt with ⟨ha, hs⟩ | ⟨a, f, ha, hs, hba, hc⟩
      · have hcell := (HT.out.below HW.out hB).cell_none ha
        have hn := Aside0.mk (numsTo_none hs)
        clear ha hs
        go_wp2
        go_roundw
        case rel => exact ⟨_, k + 1, by omega, rfl, by go_num, ⟨by rw [hn.out]; exact HR.out⟩, HW⟩
        case measure => simp [intOf]; omega
      · have hcell := (HT.out.below HW.out hB).cell_some ha
        have hn := Aside0.mk (numsTo_some hs)
        clear ha hs hc
        go_wp2_with ((with_reducible refine gate_builtin (b := .append) (xs := #[.tmp 17, .tmp 19]) rfl ?_); at_builtin; refine Kd.R_append (Kd.int .i64) (w0 := w) w.heap.size rfl (.tmp 17) (.tmp 19) 22 3 (.int .i64 0) 8 rfl Try.underlying22 info3 rfl (by decide) (by omega) _ (numsTo S k) (k : Int) [.int .i64 k] (fun _ => True) (fun _ => False) rfl rfl ?aP (fun _ hk => hk.elim) (fun _ _ => trivial) HR.out HW.out HW.out.size ?aL ?_; (case aP => exact rfl); (case aL => have := HL.out k; omega); intro v1 w1 ho hb hg hat; have HR1 := Aside0.mk ho; have HW1 := Aside0.mk hb; clear ho hb hg hat)
        go_roundw
        case rel => exact ⟨_, k + 1, by omega, rfl, by go_num, ⟨by rw [hn.out]; exact HR1.out⟩, HW1⟩
        case measure => simp [intOf]; omega
    · obtain rfl : k = 32 := by omega
      go_wp2
      go_ret
      exact ⟨_, rfl, HR.out, HW.out⟩
end
end Go.Proofs.Ytgjajdejjiiocaa.Q
