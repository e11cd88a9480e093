/- FaultChain. -/
import Derived.Test.YtfmmmojlnfndkaaDoorG1
namespace Go.Proofs.YtfmmmojlnfndkaaDoor.As
open Go.RowKit Go.Proofs.YtfmmmojlnfndkaaDoorW.PrintWords Go.Proofs.YtfmmmojlnfndkaaDoorW.PrintLast Go.Extern.Stop Go.Stop Go.Extern
set_option linter.unusedVariables false
set_option linter.unusedSimpArgs false
theorem texts_at {w : World} {A : Option Addr} {xs : List ByteArray} (h : Kd.C Kd.string w A xs.length xs) : ∃ b off, ∀ j x, xs[j]? = some x → A = some ⟨b, off, none⟩ ∧ w.cell? ⟨b, off + j, none⟩ = some (.string x) := by
  obtain ⟨_, hl, hc⟩ := h
  cases xs with
  | nil => exact ⟨0, 0, fun j x hx => by simp at hx⟩
  | cons y ys =>
    obtain ⟨ad, hA, hc⟩ := hc (by simp)
    have hcell : ∀ j x, (y :: ys)[j]? = some x → w.cell? (ad.add j) = some (.string x) := by
      intro j x hx
      obtain ⟨c, hcl, hr, hcc⟩ := hc j x hx
      have hr' : c = [.string x] := hr
      subst hr'
      have := hcc 0 _ rfl
      simpa [Kd.string, Kd.scalar] using this
    have h0 := hcell 0 y rfl
    obtain ⟨b, off, sp⟩ := ad
    have hsp : sp = none := by
      have h0' : w.cell? ⟨b, off, sp⟩ = some (.string y) := h0
      cases sp with
      | none => rfl
      | some s =>
        exfalso
        unfold World.cell? at h0'
        split at h0' <;> simp at h0'
    subst hsp
    refine ⟨b, off, fun j x hx => ⟨hA, ?_⟩⟩
    have h2 := hcell j x hx
    unfold Addr.add at h2
    split at h2
    · rename_i h; subst h; exact h2
    · exact h2
theorem ofE (v : Value) (n : Nat) (e : Int) (l : List ByteArray) (w : World) (hC : Ch w v n (some e) l) (hg : w.cell? ⟨0, 0, none⟩ = some (.iface 93 (.agg #[.pointer (some ⟨4, 32, none⟩)]))) : Calls Tryd.prog 18 #[v] w fun ev w' => ev = .returned (.int .i64 e) ∧ Below w.heap.size w w' := ofCh v n (some e) l w hC hg
theorem isSelf (v : Value) (n : Nat) (e : Int) (l : List ByteArray) (w : World) (hC : Ch w v n (some e) l) : Calls Tryd.prog 26 #[v, .iface 22 (.int .i64 e)] w fun ev w' => ev = .returned (.bool true) ∧ w' = w := by
  have h := isCh v n (some e) l e w hC
  rw [show decide (some e = some e) = true from by simp] at h
  exact h
theorem isThe (v : Value) (n : Nat) (e : Int) (l : List ByteArray) (f : Int) (q : Bool) (w : World) (hC : Ch w v n (some e) l) (hq : (e == f) = q) : Calls Tryd.prog 26 #[v, .iface 22 (.int .i64 f)] w fun ev w' => ev = .returned (.bool q) ∧ w' = w := by
  have h := isCh v n (some e) l f w hC
  rw [show decide (some e = some f) = q from by rw [← hq]; by_cases h : e = f <;> simp [h]] at h
  exact h
theorem opsLen (v : Value) (n : Nat) (e : Int) (l : List ByteArray) (m : Nat) (w : World) (hC : Ch w v n (some e) l) (hl : l.length = m) (hm : m * 16 ≤ 140737488355328) (hg : w.cell? ⟨0, 0, none⟩ = some (.iface 93 (.agg #[.pointer (some ⟨4, 32, none⟩)]))) : Calls Tryd.prog 19 #[v] w fun ev w' => ∃ A c, ev = .returned (.slice A m c) ∧ Below w.heap.size w w' := by
  subst hl
  refine (opsCh v (n + 1) (some e) l w (.inr ⟨n, Nat.lt_succ_self _, hC⟩) hm hg).mono ?_
  rintro ev w' ⟨v, rfl, hr, hb⟩
  obtain ⟨A, c, rfl⟩ := Kd.R_slice hr
  exact ⟨A, c, rfl, hb⟩
set_option maxHeartbeats 8000000 in
set_option maxRecDepth 100000 in
theorem chainE (A0 : Option Addr) (c0 : Nat) (l : List ByteArray) (e f : Int) (fo : Bool) (w : World) (hL : Laid w) (hr : Kd.C Kd.string w A0 l.length l) (hm : l.length * 16 ≤ 140737488355328) (he : e ≠ 0) : Calls Tryd.prog 6 #[.slice A0 l.length c0, .int .i64 e, .int .i64 f, .bool fo] w fun ev w' => ev = .returned (.bool true) ∧ Below w.heap.size w w' := by
  have HR := Aside0.mk (texts_at hr)
  have HM := Aside0.mk hm
  have hl63 : l.length ≤ 8796093022208 := by omega
  have HL := Aside0.mk hl63
  have HE : Aside0 (ofR (some e) ≠ 0) := Aside0.mk he
  have h0 : (e == 0) = false := by simpa using he
  have HG0 := Aside0.mk hL
  clear hr hm he hL hl63
  go_enter Tryd.func6, Tryd.ntmps6
  go_wp2
  go_loopw [9, 10] (fun u i wr => ∃ (k n : Nat) (ops : List ByteArray) (u' : Value), k ≤ l.length ∧ u = u' ∧ i = .int .i64 k ∧ Aside0 (Below w.heap.size w wr) ∧ Aside0 (Laid wr) ∧ Aside0 (ops.length = k) ∧ Aside0 (Ch wr u' n (some e) ops)) (fun _ i _ => l.length - (intOf i).toNat)
  case atStart => exact ⟨0, 0, [], _, by omega, rfl, rfl, ⟨Below.refl _ _⟩, HG0, ⟨rfl⟩, ⟨.errno e⟩⟩
  case round =>
    obtain ⟨k, n, ops, u, hk, h1, rfl, HW, HG, HN, HC⟩ := hrel
    obtain rfl := h1.symm
    clear h1
    obtain ⟨tv, xv, hv⟩ := HC.out.iface
    subst hv
    by_cases hlt : k < l.length
    · have HLT := Aside0.mk hlt
      have hl64 := HL.out
      obtain ⟨x, hx⟩ : ∃ x, l[k]? = some x := ⟨_, List.getElem?_eq_getElem hlt⟩
      obtain ⟨b1, off1, h1⟩ := HR.out
      obtain ⟨rfl, c1⟩ := h1 k x hx
      have y1 := cell_below HW.out c1
      clear h1 hx c1
      have hk1 : (k : Int) < l.length := by omega
      cases fo with
      | false =>
        go_wp2_with (first | ((with_reducible refine gate_callee (f := 25) rfl ?_); refine goesL_ (some 24) rfl rfl Tryd.func25 (by kernel_rfl) rfl #[.string x, .string ⟨#[]⟩, .iface tv xv] rfl (by (try simp only [List.map_toArray, List.map_cons, List.map_nil]); first | done | rfl) ?_; (with_reducible refine (wrapCh x ⟨#[]⟩ _ n (some e) ops _ HC.out HE.out HG.out.et).mono ?_); rintro e' w' ⟨b, rfl, hh⟩; refine ⟨_, rfl, ?_⟩; obtain ⟨hbl, hh, hb⟩ := hh; have HH := Aside0.mk hh; have HC2 := Aside0.mk (wrap_chain HC.out hb hh); have HW2 := Aside0.mk (below_step HW.out hb); have HG2 := Aside0.mk (HG.out.on hb); clear hh hb hbl))
        all_goals (try go_wp2)
        go_roundw
        case rel => exact ⟨k + 1, n + 1, x :: ops, _, by have := HLT.out; omega, rfl, by go_num, HW2, HG2, ⟨by have := HN.out; simp [this]⟩, HC2⟩
        case measure => simp [intOf]; have := HLT.out; omega
      | true =>
        go_wp2_with (first | ((with_reducible refine gate_callee (f := 25) rfl ?_); refine goesL_ (some 24) rfl rfl Tryd.func25 (by kernel_rfl) rfl #[.string x, .string ⟨#[]⟩, .iface tv xv] rfl (by (try simp only [List.map_toArray, List.map_cons, List.map_nil]); first | done | rfl) ?_; (with_reducible refine (wrapCh x ⟨#[]⟩ _ n (some e) ops _ HC.out HE.out HG.out.et).mono ?_); rintro e' w' ⟨b, rfl, hh⟩; refine ⟨_, rfl, ?_⟩; obtain ⟨hbl, hh, hb⟩ := hh; have HH := Aside0.mk hh; have HC2 := Aside0.mk (wrap_chain HC.out hb hh); have HW2 := Aside0.mk (below_step HW.out hb); have HG2 := Aside0.mk (HG.out.on hb); clear hh hb hbl))
        all_goals (try go_wp2)
        go_roundw
        case rel =>
          have hb3 : Below w'.heap.size w' (w'.alloc (.cells #[.iface 40 (.pointer (some ⟨b, 0, none⟩))] 52)) := Below.alloc (Below.refl _ _) (Nat.le_refl _) _
          refine ⟨k + 1, n + 2, x :: ops, _, by have := HLT.out; omega, rfl, by go_num, ⟨below_step HW2.out hb3⟩, ⟨HG2.out.on hb3⟩, ⟨by have := HN.out; simp [this]⟩, ⟨.other w'.heap.size _ (n + 1) (some e) (x :: ops) ?_ (HC2.out.on hb3)⟩⟩
          have h := heap_new w' (.cells #[.iface 40 (.pointer (some ⟨b, 0, none⟩))] 52)
          simp only [World.cell?, h]
          rfl
        case measure => simp [intOf]; have := HLT.out; omega
    · obtain rfl : k = l.length := by omega
      have HLn := HN
      obtain ⟨q, hq⟩ : ∃ q, (e == f) = q := ⟨_, rfl⟩
      have HQ := Aside0.mk hq
      go_wp2_with (first | ((with_reducible refine gate_callee (f := 26) rfl ?_); refine goesL_ (some 54) rfl rfl Tryd.func26 (by kernel_rfl) rfl #[.iface tv xv, .iface 22 (.int .i64 e)] rfl (by (try simp only [List.map_toArray, List.map_cons, List.map_nil]); first | done | rfl) ?_; (with_reducible refine (isSelf _ n e ops _ HC.out).mono ?_); rintro e' w' ⟨rfl, rfl⟩; refine ⟨_, rfl, ?_⟩) | ((with_reducible refine gate_callee (f := 18) rfl ?_); (refine gate_guard (by first | rfl | kernel_rfl) ?_); refine goesL_ (some 57) rfl rfl Tryd.func18 (by kernel_rfl) rfl #[.iface tv xv] rfl (by (try simp only [List.map_toArray, List.map_cons, List.map_nil]); first | done | rfl) ?_; (with_reducible refine (ofE _ n e ops _ HC.out HG.out.et).mono ?_); rintro e' w' ⟨rfl, hb⟩; refine ⟨_, rfl, ?_⟩; have n0_ := Aside0.mk (below_step HW.out hb); have n1_ := Aside0.mk (HC.out.on hb); have n2_ := Aside0.mk (HG.out.on hb); clear HW HC HG; have HW := n0_; have HC := n1_; have HG := n2_; clear n0_ n1_ n2_ hb) | ((with_reducible refine gate_callee (f := 26) rfl ?_); (refine gate_guard (by first | rfl | kernel_rfl) ?_); refine goesL_ (some 65) rfl rfl Tryd.func26 (by kernel_rfl) rfl #[.iface tv xv, .iface 22 (.int .i64 f)] rfl (by (try simp only [List.map_toArray, List.map_cons, List.map_nil]); first | done | rfl) ?_; (with_reducible refine (isThe _ n e ops f q _ HC.out HQ.out).mono ?_); rintro e' w' ⟨rfl, rfl⟩; refine ⟨_, rfl, ?_⟩) | ((with_reducible refine gate_callee (f := 19) rfl ?_); (refine gate_guard (by first | rfl | kernel_rfl) ?_); refine goesL_ (some 73) rfl rfl Tryd.func19 (by kernel_rfl) rfl #[.iface tv xv] rfl (by (try simp only [List.map_toArray, List.map_cons, List.map_nil]); first | done | rfl) ?_; (with_reducible refine (opsLen _ n e ops l.length _ HC.out HLn.out HM.out HG.out.et).mono ?_); rintro e' w' ⟨A2, cap2, rfl, hb⟩; refine ⟨_, rfl, ?_⟩; have n0_ := Aside0.mk (below_step HW.out hb); have n1_ := Aside0.mk (HC.out.on hb); have n2_ := Aside0.mk (HG.out.on hb); clear HW HC HG; have HW := n0_; have HC := n1_; have HG := n2_; clear n0_ n1_ n2_ hb) | ((with_reducible refine gate_callee (f := 16) rfl ?_); (refine gate_guard (by first | rfl | kernel_rfl) ?_); refine goesL_ (some 80) rfl rfl Tryd.func16 (by kernel_rfl) rfl #[] rfl (by (try simp only [List.map_toArray, List.map_cons, List.map_nil]); first | done | rfl) ?_; (with_reducible refine (Q.alive.calls true _ HG.out rfl).mono ?_); rintro e' w' ⟨rfl, hb⟩; refine ⟨_, rfl, ?_⟩; have n0_ := Aside0.mk (below_step HW.out hb); have n1_ := Aside0.mk (HC.out.on hb); have n2_ := Aside0.mk (HG.out.on hb); clear HW HC HG; have HW := n0_; have HC := n1_; have HG := n2_; clear n0_ n1_ n2_ hb))
      all_goals (try go_wp2)
      all_goals (try go_ret)
      all_goals (exact ⟨rfl, HW.out⟩)
set_option maxHeartbeats 8000000 in
set_option maxRecDepth 100000 in
theorem chain0 (A0 : Option Addr) (c0 : Nat) (l : List ByteArray) (f : Int) (fo : Bool) (w : World) (hL : Laid w) (hr : Kd.C Kd.string w A0 l.length l) (hm : l.length * 16 ≤ 140737488355328) : Calls Tryd.prog 6 #[.slice A0 l.length c0, .int .i64 0, .int .i64 f, .bool fo] w fun ev w' => ev = .returned (.bool true) ∧ Below w.heap.size w w' := by
  have HR := Aside0.mk (texts_at hr)
  have hl63 : l.length ≤ 8796093022208 := by omega
  have HL := Aside0.mk hl63
  have HG0 := Aside0.mk hL
  clear hr hm hL hl63
  go_enter Tryd.func6, Tryd.ntmps6
  go_wp2
  go_loopw [9, 10] (fun u i wr => ∃ (k : Nat) (u' : Value), k ≤ l.length ∧ u = u' ∧ i = .int .i64 k ∧ Aside0 (Below w.heap.size w wr) ∧ Aside0 (Laid wr) ∧ Aside0 ((k = 0 ∧ u' = .iface 22 (.int .i64 0)) ∨ (0 < k ∧ u' = .nilIface))) (fun _ i _ => l.length - (intOf i).toNat)
  case atStart => exact ⟨0, _, by omega, rfl, rfl, ⟨Below.refl _ _⟩, HG0, ⟨.inl ⟨rfl, rfl⟩⟩⟩
  case round =>
    obtain ⟨k, u, hk, h1, rfl, HW, HG, HC⟩ := hrel
    obtain rfl := h1.symm
    clear h1
    by_cases hlt : k < l.length
    · have HLT := Aside0.mk hlt
      have hl64 := HL.out
      obtain ⟨x, hx⟩ : ∃ x, l[k]? = some x := ⟨_, List.getElem?_eq_getElem hlt⟩
      obtain ⟨b1, off1, h1⟩ := HR.out
      obtain ⟨rfl, c1⟩ := h1 k x hx
      have y1 := cell_below HW.out c1
      clear h1 hx c1
      have hk1 : (k : Int) < l.length := by omega
      rcases HC.out with ⟨hz, rfl⟩ | ⟨hz, rfl⟩ <;> clear hz HC
      · cases fo <;>
        · go_wp2_with (first | ((with_reducible refine gate_callee (f := 25) rfl ?_); refine goesL_ (some 24) rfl rfl Tryd.func25 (by kernel_rfl) rfl #[.string x, .string ⟨#[]⟩, .iface 22 (.int .i64 0)] rfl (by (try simp only [List.map_toArray, List.map_cons, List.map_nil]); first | done | rfl) ?_; (with_reducible refine (wrapOK x ⟨#[]⟩ _ HG.out.et).mono ?_); rintro e' w' ⟨rfl, hb⟩; refine ⟨_, rfl, ?_⟩; have HW2 := Aside0.mk (below_step HW.out hb); have HG2 := Aside0.mk (HG.out.on hb); clear hb))
          all_goals (try go_wp2)
          go_roundw
          case rel => exact ⟨k + 1, _, by have := HLT.out; omega, rfl, by go_num, HW2, HG2, ⟨.inr ⟨by omega, rfl⟩⟩⟩
          case measure => simp [intOf]; have := HLT.out; omega
      · cases fo <;>
        · go_wp2_with (first | ((with_reducible refine gate_callee (f := 25) rfl ?_); refine goesL_ (some 24) rfl rfl Tryd.func25 (by kernel_rfl) rfl #[.string x, .string ⟨#[]⟩, .nilIface] rfl (by (try simp only [List.map_toArray, List.map_cons, List.map_nil]); first | done | rfl) ?_; (with_reducible refine (wrapNil x ⟨#[]⟩ _).mono ?_); rintro e' w' ⟨rfl, rfl⟩; refine ⟨_, rfl, ?_⟩))
          all_goals (try go_wp2)
          go_roundw
          case rel => exact ⟨k + 1, _, by have := HLT.out; omega, rfl, by go_num, HW, HG, ⟨.inr ⟨by omega, rfl⟩⟩⟩
          case measure => simp [intOf]; have := HLT.out; omega
    · obtain rfl : k = l.length := by omega
      rcases HC.out with ⟨hz, rfl⟩ | ⟨hz, rfl⟩
      · have hz1 : ((l.length : Int) == 0) = true := by rw [hz]; rfl
        clear HC hz
        go_wp2_with (first | ((with_reducible refine gate_callee (f := 18) rfl ?_); (refine gate_guard (by first | rfl | kernel_rfl) ?_); refine goesL_ (some 45) rfl rfl Tryd.func18 (by kernel_rfl) rfl #[.iface 22 (.int .i64 0)] rfl (by (try simp only [List.map_toArray, List.map_cons, List.map_nil]); first | done | rfl) ?_; (with_reducible refine (ofE _ 0 0 [] _ (.errno 0) HG.out.et).mono ?_); rintro e' w' ⟨rfl, hb⟩; refine ⟨_, rfl, ?_⟩; have n0_ := Aside0.mk (below_step HW.out hb); have n2_ := Aside0.mk (HG.out.on hb); clear HW HG; have HW := n0_; have HG := n2_; clear n0_ n2_ hb) | ((with_reducible refine gate_callee (f := 16) rfl ?_); (refine gate_guard (by first | rfl | kernel_rfl) ?_); refine goesL_ (some 49) rfl rfl Tryd.func16 (by kernel_rfl) rfl #[] rfl (by (try simp only [List.map_toArray, List.map_cons, List.map_nil]); first | done | rfl) ?_; (with_reducible refine (Q.alive.calls true _ HG.out rfl).mono ?_); rintro e' w' ⟨rfl, hb⟩; refine ⟨_, rfl, ?_⟩; have n0_ := Aside0.mk (below_step HW.out hb); have n2_ := Aside0.mk (HG.out.on hb); clear HW HG; have HW := n0_; have HG := n2_; clear n0_ n2_ hb))
        all_goals (try go_wp2)
        all_goals (try go_ret)
        all_goals (exact ⟨rfl, HW.out⟩)
      · have hz1 : ((l.length : Int) == 0) = false := beq_eq_false_iff_ne.mpr (by omega)
        clear HC hz
        go_wp2_with (first | ((with_reducible refine gate_callee (f := 18) rfl ?_); (refine gate_guard (by first | rfl | kernel_rfl) ?_); refine goesL_ (some 45) rfl rfl Tryd.func18 (by kernel_rfl) rfl #[.nilIface] rfl (by (try simp only [List.map_toArray, List.map_cons, List.map_nil]); first | done | rfl) ?_; (with_reducible refine (ofNil _).mono ?_); rintro e' w' ⟨rfl, rfl⟩; refine ⟨_, rfl, ?_⟩) | ((with_reducible refine gate_callee (f := 16) rfl ?_); (refine gate_guard (by first | rfl | kernel_rfl) ?_); refine goesL_ (some 49) rfl rfl Tryd.func16 (by kernel_rfl) rfl #[] rfl (by (try simp only [List.map_toArray, List.map_cons, List.map_nil]); first | done | rfl) ?_; (with_reducible refine (Q.alive.calls true _ HG.out rfl).mono ?_); rintro e' w' ⟨rfl, hb⟩; refine ⟨_, rfl, ?_⟩; have n0_ := Aside0.mk (below_step HW.out hb); have n2_ := Aside0.mk (HG.out.on hb); clear HW HG; have HW := n0_; have HG := n2_; clear n0_ n2_ hb))
        all_goals (try go_wp2)
        all_goals (try go_ret)
        all_goals (exact ⟨rfl, HW.out⟩)
end Go.Proofs.YtfmmmojlnfndkaaDoor.As
namespace Go.Proofs.YtfmmmojlnfndkaaDoor.Q
open Go.RowKit Go.Proofs.YtfmmmojlnfndkaaDoorW.PrintWords
def pumicelaw04_FaultChain.f (l : List ByteArray) (_a1 _a2 : Int) (_a3 : Bool) : Option Bool := if l.length * 16 ≤ 140737488355328 then some true else none
theorem pumicelaw04_FaultChain.calls (A0 : Option Addr) (c0 : Nat) (l : List ByteArray) (a1 a2 : Int) (a3 : Bool) (r : Bool) (w : World) (hL : As.Laid w) (hr : Kd.C Kd.string w A0 l.length l) (_hc : l.length ≤ c0) (h : pumicelaw04_FaultChain.f l a1 a2 a3 = some r) : Calls Tryd.prog 6 #[.slice A0 l.length c0, .int .i64 a1, .int .i64 a2, .bool a3] w fun e w' => e = .returned (.bool r) ∧ Below w.heap.size w w' := by
  unfold pumicelaw04_FaultChain.f at h
  split at h
  · rename_i hm
    obtain rfl : true = r := Option.some.inj h
    by_cases he : a1 = 0
    · subst he; exact As.chain0 A0 c0 l a2 a3 w hL hr hm
    · exact As.chainE A0 c0 l a1 a2 a3 w hL hr hm he
  · cases h
end Go.Proofs.YtfmmmojlnfndkaaDoor.Q
