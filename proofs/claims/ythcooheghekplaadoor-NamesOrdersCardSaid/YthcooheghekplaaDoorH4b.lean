/- slices.Values over texts, slices.AppendSeq. -/
import Derived.Test.YthcooheghekplaaDoorH2c
import Derived.Test.YthcooheghekplaaDoorH3
namespace Go.Proofs.YthcooheghekplaaDoor.Cut
open Go.RowKit Go.Shelf Go.Proofs.YthcooheghekplaaDoorW.PrintWords
set_option linter.unusedVariables false
set_option linter.unusedSimpArgs false
attribute [local go_sem] Oper.semAt_some
def Lies (W : World) (A : Option Addr) (q o : Nat) (l : List ByteArray) : Prop := ∀ j x, l[j]? = some x → A = some ⟨q, o, none⟩ ∧ W.cell? ⟨q, o + j, none⟩ = some (.string x)
theorem Lies.on {W W' : World} {A : Option Addr} {q o : Nat} {l : List ByteArray} (h : Lies W A q o l) (hk : W'.heap[q]? = W.heap[q]?) : Lies W' A q o l := fun j x hx => ⟨(h j x hx).1, (World.cell?_of_block (a := ⟨q, o + j, none⟩) hk).trans (h j x hx).2⟩
set_option maxRecDepth 100000 in
set_option maxHeartbeats 4000000 in
theorem viter (n : Nat) (hn : 1 ≤ n) (lp bx q o c : Nat) (A : Option Addr) (l : List ByteArray) (hl : l.length < 8796093022208) (J Jx : List ByteArray → World → Prop)
    (hY : ∀ pre x W1, J pre W1 → pre.length < l.length → YieldAt Fence.wide (n - 1) Tryd.prog lp #[.string x] W1 fun e W' =>
      (e = .returned (.bool true) ∧ J (pre ++ [x]) W' ∧ Kept [bx, q] W1 W') ∨ (e = .returned (.bool false) ∧ Jx (pre ++ [x]) W'))
    (W : World) (k1 : W.heap[bx]? = some (.cells #[.slice A l.length c] 22 (0, 0))) (k2 : Lies W A q o l) (h0 : J [] W) :
    CallsIn Fence.wide n Tryd.prog 49 #[.func (.yield lp) #[] #[], .pointer (some ⟨bx, 0, none⟩)] W fun e W' => (∃ v, e = .returned v) ∧
      ((∃ xs, xs = l ∧ J xs W') ∨ (∃ pre, pre <+: l ∧ Jx pre W')) := by
  refine callsIn_of_wp Tryd.func49 rfl trivial ?_ rfl
  simp only [Tryd.ntmps49, List.size_toArray, List.length_cons, List.length_nil, Nat.reduceAdd, Nat.reduceSub, Array.replicate_succ, Array.replicate_zero, List.push_toArray, List.append_toArray, List.nil_append, List.cons_append]
  have c1 := cell_at k1
  obtain ⟨m, hm⟩ : ∃ m, l.length = m := ⟨_, rfl⟩
  rw [hm] at c1 hl
  gi_wp2
  gi_loopw [4, 7] (fun _ v7 wr => ∃ k : Nat, k ≤ m ∧ v7 = .int .i64 (k : Int) ∧ wr.heap[bx]? = some (.cells #[.slice A l.length c] 22 (0, 0)) ∧ Lies wr A q o l ∧ J (l.take k) wr)
    (fun _ v7 _ => m - (intOf v7).toNat)
  case atStart => exact ⟨0, by omega, rfl, k1, k2, h0⟩
  case round =>
    obtain ⟨k, hk, rfl, g1, g2, hj⟩ := hrel
    rcases Nat.lt_or_ge k m with hlt | hge
    · obtain ⟨x, hx⟩ : ∃ x, l[k]? = some x := ⟨l[k]'(by omega), List.getElem?_eq_getElem (by omega)⟩
      obtain ⟨rfl, hc⟩ := g2 k x hx
      have hxl : k < l.length := by omega
      have ht : (l.take k).length = k := by rw [List.length_take]; omega
      have hsnoc : l.take k ++ [x] = l.take (k + 1) := by rw [List.take_add_one, hx]; rfl
      obtain ⟨fn, tmps, assign, body, hy, hR⟩ := hY (l.take k) x wr hj (by omega)
      have hlti : (k : Int) < (m : Int) := by omega
      gi_wp2
      refine hR.mono ?_
      rintro e W3 (⟨rfl, hJ3, hk3⟩ | ⟨rfl, hJx3⟩)
      · gi_wp2
        go_roundw
        case rel => exact ⟨k + 1, by omega, rfl, (hk3 bx (by simp)).trans g1, g2.on (hk3 q (by simp)), hsnoc ▸ hJ3⟩
        case measure => simp [intOf]; omega
      · gi_wp2
        refine bodyPost_ret (results_none rfl _ _ _) rfl ?_
        exact ⟨⟨_, rfl⟩, .inr ⟨l.take k ++ [x], by rw [hsnoc]; exact List.take_prefix _ _, hJx3⟩⟩
    · obtain rfl : k = m := by omega
      have hnl : ¬ ((k : Int) < (k : Int)) := by omega
      gi_wp2
      go_end0
      exact ⟨⟨_, rfl⟩, .inl (by have := hj; rw [← hm, List.take_length] at this; exact this)⟩
end Go.Proofs.YthcooheghekplaaDoor.Cut
