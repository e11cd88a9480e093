/- K6 -/
import Derived.Test.YtakchpeohmkpkaaBc
namespace Go.Proofs.Ytakchpeohmkpkaa.Q
open Go.RowKit Go.Proofs.YtakchpeohmkpkaaW.PrintWords Go.Proofs.YtakchpeohmkpkaaW.PrintLast Go.Proofs.YtakchpeohmkpkaaW.PrintMore Go.Proofs.Ytakchpeohmkpkaa.Sep
set_option linter.unusedVariables false
set_option linter.unusedSimpArgs false
theorem leVal_small {xs : List Int} (h : Bytes xs) (hl : xs.length ≤ 1) : 0 ≤ leVal xs ∧ leVal xs ≤ 255 := by
  match xs, h, hl with
  | [], _, _ => simp [leVal]
  | [x], h, _ => have := h x List.mem_cons_self; simp [leVal]; omega
theorem leVal_small2 {xs : List Int} (h : Bytes xs) (hl : xs.length ≤ 2) : 0 ≤ leVal xs ∧ leVal xs ≤ 65535 := by
  match xs, h, hl with
  | [], _, _ => simp [leVal]
  | [x], h, _ => have := h x List.mem_cons_self; simp [leVal]; omega
  | [x, y], h, _ =>
    have := h x List.mem_cons_self
    have := h y (List.mem_cons_of_mem _ List.mem_cons_self)
    simp [leVal]
    omega
theorem run_text {P : Program} {w0 W : World} {a : Act} {oi : Oper} {Hs : Frag} {src dst : TypeId} {x : Operand} {A : Option Addr} {c : Nat} {xs : List Int} {e : TypeId} {v : Value} (hop : oi.op = .convert src dst x) (hev : a.eval x = v) (hv : v = .slice A xs.length c) (hs : P.underlying src = some (.slice e)) (hd : P.underlying dst = some .string) (he : P.underlying e = some (.int .u8)) (hSr : Src (Value.int .u8) w0 Hs A xs) (hl : xs.length ≤ 9223372036854775807) (HH : Holds w0 W Hs) :
    (execOp a.eval oi).run P W = .ok (.value (.string (strOfNums xs))) W := by
  subst hev
  have hC : (Kd.int .u8).C W A xs.length xs := hSr.C (h1 := fun _ => rfl) HH hl
  unfold execOp
  simp [hop, hv, Kd.C_string hs he hd hC]
set_option maxHeartbeats 8000000 in
set_option maxRecDepth 100000 in
theorem unpack_ok1 (A0 : Option Addr) (c0 : Nat) (l0 : List Int) (w : World) (hr0 : Kd.C (Kd.int .u8) w A0 l0.length l0) (hc0 : l0.length ≤ c0) (hl : l0.length ≤ 281474976710656) (hb : Bytes l0) (f0 : (leVal (nxt l0 0 1) == 1) = true) (f1 : (leVal (nxt l0 0 1) != 1) = false) (f2 : (leVal (nxt l0 0 1) == 2) = false) (f3 : (leVal (nxt l0 0 1) != 2) = true) (f4 : ((((pos l0 (pos l0 (pos l0 (pos l0 (pos l0 0 1) 1) (leVal (nxt l0 (pos l0 0 1) 1)).toNat) 2) (leVal (nxt l0 (pos l0 (pos l0 (pos l0 0 1) 1) (leVal (nxt l0 (pos l0 0 1) 1)).toNat) 2)).toNat) : Nat) : Int) == (l0.length : Int)) = true) (f5 : node_Right.f (strOfNums (nxt l0 (pos l0 (pos l0 0 1) 1) (leVal (nxt l0 (pos l0 0 1) 1)).toNat)) (strOfNums (nxt l0 (pos l0 (pos l0 (pos l0 (pos l0 0 1) 1) (leVal (nxt l0 (pos l0 0 1) 1)).toNat) 2) (leVal (nxt l0 (pos l0 (pos l0 (pos l0 0 1) 1) (leVal (nxt l0 (pos l0 0 1) 1)).toNat) 2)).toNat)) false = some true) :
    Calls Try.prog 26 #[.slice A0 l0.length c0] w fun e w' => e = .returned (.tuple #[.agg #[.string (strOfNums (nxt l0 (pos l0 (pos l0 0 1) 1) (leVal (nxt l0 (pos l0 0 1) 1)).toNat)), .string (strOfNums (nxt l0 (pos l0 (pos l0 (pos l0 (pos l0 0 1) 1) (leVal (nxt l0 (pos l0 0 1) 1)).toNat) 2) (leVal (nxt l0 (pos l0 (pos l0 (pos l0 0 1) 1) (leVal (nxt l0 (pos l0 0 1) 1)).toNat) 2)).toNat)), .bool false], .bool true]) ∧ Below w.heap.size w w' := by
  have HS : Aside0 (Src (Value.int .u8) w [] A0 l0) := Aside0.mk (Src.of_C (h1 := fun _ => rfl) hr0)
  have HL := Aside0.mk hl
  have hby := Aside0.mk hb
  have HC := Aside0.mk hc0
  have HA := Aside0.mk (Holds.start w)
  have HK1 := Aside0.mk (show (leVal (nxt l0 (pos l0 0 1) 1)).toNat ≤ 1048576 ∧ leVal (nxt l0 (pos l0 0 1) 1) = ((leVal (nxt l0 (pos l0 0 1) 1)).toNat : Int) from by have := leVal_small (hb.nxt (pos l0 0 1) 1) (nxt_le l0 _ 1); omega)
  have HK2 := Aside0.mk (show (leVal (nxt l0 (pos l0 (pos l0 (pos l0 0 1) 1) (leVal (nxt l0 (pos l0 0 1) 1)).toNat) 2)).toNat ≤ 1048576 ∧ leVal (nxt l0 (pos l0 (pos l0 (pos l0 0 1) 1) (leVal (nxt l0 (pos l0 0 1) 1)).toNat) 2) = ((leVal (nxt l0 (pos l0 (pos l0 (pos l0 0 1) 1) (leVal (nxt l0 (pos l0 0 1) 1)).toNat) 2)).toNat : Int) from by have := leVal_small2 (hb.nxt (pos l0 (pos l0 (pos l0 0 1) 1) (leVal (nxt l0 (pos l0 0 1) 1)).toNat) 2) (nxt_le l0 _ 2); omega)
  clear hr0 hl hb hc0
  have HR := Aside0.mk f5
  clear f5
  go_enter Try.func26, Try.ntmps26
  go_wp2_with (first
    | ((with_reducible apply load1_); (case HH => first | exact HA.out | exact HA.out.any rfl rfl rfl rfl); (case ht => rfl); (case hx => rfl); (case hw => rfl); (case hm => repeat (first | exact List.Mem.head _ | refine List.Mem.tail _ ?_)); (case hv => exact rfl); simp only [Act.put, List.setIfInBounds_toArray, List.set_cons_zero, List.set_cons_succ])
    | ((with_reducible apply loadN_ (n := 3)); (case HH => first | exact HA.out | exact HA.out.any rfl rfl rfl rfl); (case ht => rfl); (case hn => decide +kernel); (case hx => rfl); (case hw => rfl); (case hm => repeat (first | exact List.Mem.head _ | refine List.Mem.tail _ ?_)); (case hv => first | (simp only [List.drop_succ_cons, List.drop_zero, List.take_succ_cons, List.take_zero]; rfl) | rfl); (case hl => rfl); simp only [Act.put, List.setIfInBounds_toArray, List.set_cons_zero, List.set_cons_succ])
    | ((with_reducible apply box_); (case HH => first | exact HA.out | exact HA.out.any rfl rfl rfl rfl); (case hw => rfl); (case hev => conv => lhs; whnf); (case hy => rfl); intro bx w1 HB_; simp only [Act.put, List.setIfInBounds_toArray, List.set_cons_zero, List.set_cons_succ]; clear HA; have HA := Aside0.mk HB_; clear HB_)
    | ((with_reducible apply alloc_ (z := .agg #[.string ⟨#[]⟩, .string ⟨#[]⟩, .bool false])); (case HH => first | exact HA.out | exact HA.out.any rfl rfl rfl rfl); (case hw => rfl); (case hz => kernel_rfl); (case hx => rfl); intro bx w1 HB_; simp only [Act.put, List.setIfInBounds_toArray, List.set_cons_zero, List.set_cons_succ]; clear HA; have HA := Aside0.mk HB_; clear HB_)
    | ((with_reducible apply store_); (case HH => first | exact HA.out | exact HA.out.any rfl rfl rfl rfl); (case hw => rfl); (case hx => rfl); (case hev => conv => lhs; whnf); (case hy => rfl); (case hm => repeat (first | exact Holds.At.here | apply Holds.At.there)); (case hl => rfl); (case hn => kernel_rfl); (case h1 => simp [Value.oneCell']); (case hi => simp); intro w1 HB_; simp only [splice, List.set_cons_zero, List.set_cons_succ] at HB_; clear HA; have HA := Aside0.mk HB_; clear HB_)
    | (go_at_call 50; (with_reducible apply Calls.mono); (case h => exact number_at (by first | exact HA.out | exact HA.out.any rfl rfl rfl rfl) (by repeat (first | exact Holds.At.here | apply Holds.At.there)) HL.out HC.out (by first | exact pos_le _ _ _ | exact Nat.zero_le _ | omega) (by decide) (HS.out.mono (by simp)) hby.out); rintro e w1 ⟨rfl, HB_⟩; clear HA; have HA := Aside0.mk HB_; clear HB_)
    | (go_at_call 52; (with_reducible apply Calls.mono); (case h => exact done_calls _ _ _ _ l0 w _ _ [] (by first | exact HA.out | exact HA.out.any rfl rfl rfl rfl) (by repeat (first | exact List.Mem.head _ | refine List.Mem.tail _ ?_))); rintro e w' ⟨rfl, ⟨nd, rfl⟩⟩)
    | (go_at_call 22; (with_reducible refine (node_Right.calls _ _ _ _ _ HR.out).mono ?_); rintro e w1 ⟨rfl, hb_⟩; have HB_ := HA.out.call1 hb_ rfl rfl rfl rfl; clear hb_; clear HA; have HA := Aside0.mk HB_; clear HB_))
  refine start_H (by first | exact HA.out.none | exact (HA.out.any rfl rfl rfl rfl).none) (n := 8) [] #[false, false, false, false, false, false, false, false] (by kernel_rfl) rfl rfl ?_
  refine pure_ (i := 0) (N := some 14) (v := ?_) (a' := ?_) #[true, false, false, false, false, false, false, false] rfl rfl (by kernel_rfl) (fun _ _ _ h => h) (Or.inl ⟨by rfl, ?_⟩) ?_ ?_
  rotate_left
  · intro w'
    go_simp
    with_reducible rfl
  rotate_left
  · simp only [Act.put, List.setIfInBounds_toArray, List.set_cons_zero, List.set_cons_succ, i64_w, i32_w]
    rfl
  refine pure_ (i := 1) (N := some 15) (v := ?_) (a' := ?_) #[true, true, false, false, false, false, false, false] rfl rfl (by kernel_rfl) (fun _ _ _ h => h) (Or.inl ⟨by rfl, ?_⟩) ?_ ?_
  rotate_left
  · intro w'
    go_simp
    with_reducible rfl
  rotate_left
  · simp only [Act.put, List.setIfInBounds_toArray, List.set_cons_zero, List.set_cons_succ, i64_w, i32_w]
    rfl
  refine pure_ (i := 2) (N := some 16) (v := ?_) (a' := ?_) #[true, true, true, false, false, false, false, false] rfl rfl (by kernel_rfl) (fun _ _ _ h => h) (Or.inl ⟨by rfl, ?_⟩) ?_ ?_
  rotate_left
  · intro w'
    go_simp
    with_reducible rfl
  rotate_left
  · simp only [Act.put, List.setIfInBounds_toArray, List.set_cons_zero, List.set_cons_succ, i64_w, i32_w]
    rfl
  refine pure_ (i := 3) (N := some 17) (v := ?_) (a' := ?_) #[true, true, true, true, false, false, false, false] rfl rfl (by kernel_rfl) (fun _ _ _ h => h) (Or.inl ⟨by rfl, ?_⟩) ?_ ?_
  rotate_left
  · intro w'
    go_simp
    with_reducible rfl
  rotate_left
  · simp only [Act.put, List.setIfInBounds_toArray, List.set_cons_zero, List.set_cons_succ, i64_w, i32_w]
    rfl
  refine one_ (i := 4) (N := some 18) #[true, true, true, true, true, false, false, false] rfl rfl (by kernel_rfl) (by decide) (fun K hK => ?_)
  apply call_e Try.func50 (args := #[.pointer (some ⟨bx, 0, none⟩), .int .i64 1]); (case hname => kernel_rfl); (case hb => rfl); (case hop => rfl); (case hN => rfl); (case hw => rfl); (case hargs => ((try simp only [List.map_toArray, List.map_cons, List.map_nil]); first | done | rfl)); (case hcl => exact number_at (g := bx) (k := 1) (by first | exact HA.out | exact HA.out.any rfl rfl rfl rfl) (by repeat (first | exact Holds.At.here | apply Holds.At.there)) HL.out HC.out (by first | exact pos_le _ _ _ | exact Nat.zero_le _ | omega) (by decide) (HS.out.mono (by simp)) hby.out); rintro e w1 ⟨rfl, HB_⟩; refine ⟨_, rfl, ?_⟩; (clear HA; have HA := Aside0.mk HB_; clear HB_)
  refine hK.out _ _ (by first | exact HA.out.none | exact (HA.out.any rfl rfl rfl rfl).none) (fun hHeld => ?_)
  clear hK K
  refine norm_ (a' := ?_) ?_ ?_
  rotate_left
  · show Act.put _ (some 18) _ = _
    simp only [Act.put, List.setIfInBounds_toArray, List.set_cons_zero, List.set_cons_succ, i64_w, i32_w]
    rfl
  refine one_ (i := 5) (N := some 19) #[true, true, true, true, true, true, false, false] rfl rfl (by kernel_rfl) (by decide) (fun K hK => ?_)
  apply call_e Try.func51 (args := #[.pointer (some ⟨bx, 0, none⟩), .int .i64 (leVal (nxt l0 (pos l0 0 1) 1))]); (case hname => kernel_rfl); (case hb => rfl); (case hop => rfl); (case hN => rfl); (case hw => rfl); (case hargs => ((try simp only [List.map_toArray, List.map_cons, List.map_nil]); first | done | rfl)); (case hcl => exact next_at (by first | exact HA.out | exact HA.out.any rfl rfl rfl rfl) (by repeat (first | exact Holds.At.here | apply Holds.At.there)) HL.out HC.out (by exact pos_le _ _ _) HK1.out.1 HK1.out.2 HS.out); rintro e w1 ⟨A1, d1, rfl, hd1, hs1, HB_⟩; refine ⟨_, rfl, ?_⟩; (clear HA; have HA := Aside0.mk HB_; clear HB_; have HS1 := Aside0.mk hs1; clear hs1 hd1)
  refine hK.out _ _ (by first | exact HA.out.none | exact (HA.out.any rfl rfl rfl rfl).none) (fun hHeld => ?_)
  clear hK K
  refine norm_ (a' := ?_) ?_ ?_
  rotate_left
  · show Act.put _ (some 19) _ = _
    simp only [Act.put, List.setIfInBounds_toArray, List.set_cons_zero, List.set_cons_succ, i64_w, i32_w]
    rfl
  refine take_ (i := 6) (N := some 20) (v := (.string (strOfNums (nxt l0 (pos l0 (pos l0 0 1) 1) (leVal (nxt l0 (pos l0 0 1) 1)).toNat)))) (a' := ?_) #[true, true, true, true, true, true, true, false] rfl rfl (by kernel_rfl) (fun _ _ _ h => h) (Or.inl ⟨by rfl, ?_⟩) (by first | exact HA.out.none | exact (HA.out.any rfl rfl rfl rfl).none) ?_ ?_
  · intro w' s0
    (apply run_text; (case hop => rfl); (case hev => conv => lhs; whnf); (case hv => rfl); (case hs => exact Try.underlying34); (case hd => exact Try.underlying9); (case he => exact Try.underlying5); (case hSr => exact HS1.out); (case hl => (have := nxt_le l0 (pos l0 (pos l0 0 1) 1) (leVal (nxt l0 (pos l0 0 1) 1)).toNat; have := HK1.out; omega)); (case HH => exact s0))
  rotate_left
  · simp only [Act.put, List.setIfInBounds_toArray, List.set_cons_zero, List.set_cons_succ, i64_w, i32_w]
    rfl
  refine pure_ (i := 7) (N := some 6) (v := ?_) (a' := ?_) #[true, true, true, true, true, true, true, true] rfl rfl (by kernel_rfl) (fun _ _ _ h => h) (Or.inl ⟨by rfl, ?_⟩) ?_ ?_
  rotate_left
  · intro w'
    go_simp
    with_reducible rfl
  rotate_left
  · simp only [Act.put, List.setIfInBounds_toArray, List.set_cons_zero, List.set_cons_succ, i64_w, i32_w]
    rfl
  refine done_ (by kernel_rfl) ?_
  go_wp2
  refine start_H (by first | exact HA.out.none | exact (HA.out.any rfl rfl rfl rfl).none) (n := 13) [] #[false, false, false, false, false, false, false, false, false, false, false, false, false] (by kernel_rfl) rfl rfl ?_
  refine pure_ (i := 0) (N := some 21) (v := ?_) (a' := ?_) #[true, false, false, false, false, false, false, false, false, false, false, false, false] rfl rfl (by kernel_rfl) (fun _ _ _ h => h) (Or.inl ⟨by rfl, ?_⟩) ?_ ?_
  rotate_left
  · intro w'
    go_simp
    with_reducible rfl
  rotate_left
  · simp only [Act.put, List.setIfInBounds_toArray, List.set_cons_zero, List.set_cons_succ, i64_w, i32_w]
    rfl
  refine pure_ (i := 1) (N := some 22) (v := ?_) (a' := ?_) #[true, true, false, false, false, false, false, false, false, false, false, false, false] rfl rfl (by kernel_rfl) (fun _ _ _ h => h) (Or.inl ⟨by rfl, ?_⟩) ?_ ?_
  rotate_left
  · intro w'
    go_simp
    with_reducible rfl
  rotate_left
  · simp only [Act.put, List.setIfInBounds_toArray, List.set_cons_zero, List.set_cons_succ, i64_w, i32_w]
    rfl
  refine pure_ (i := 2) (N := some 23) (v := ?_) (a' := ?_) #[true, true, true, false, false, false, false, false, false, false, false, false, false] rfl rfl (by kernel_rfl) (fun _ _ _ h => h) (Or.inl ⟨by rfl, ?_⟩) ?_ ?_
  rotate_left
  · intro w'
    go_simp
    with_reducible rfl
  rotate_left
  · simp only [Act.put, List.setIfInBounds_toArray, List.set_cons_zero, List.set_cons_succ, i64_w, i32_w]
    rfl
  refine pure_ (i := 3) (N := some 24) (v := ?_) (a' := ?_) #[true, true, true, true, false, false, false, false, false, false, false, false, false] rfl rfl (by kernel_rfl) (fun _ _ _ h => h) (Or.inl ⟨by rfl, ?_⟩) ?_ ?_
  rotate_left
  · intro w'
    go_simp
    with_reducible rfl
  rotate_left
  · simp only [Act.put, List.setIfInBounds_toArray, List.set_cons_zero, List.set_cons_succ, i64_w, i32_w]
    rfl
  refine pure_ (i := 4) (N := some 25) (v := ?_) (a' := ?_) #[true, true, true, true, true, false, false, false, false, false, false, false, false] rfl rfl (by kernel_rfl) (fun _ _ _ h => h) (Or.inl ⟨by rfl, ?_⟩) ?_ ?_
  rotate_left
  · intro w'
    go_simp
    with_reducible rfl
  rotate_left
  · simp only [Act.put, List.setIfInBounds_toArray, List.set_cons_zero, List.set_cons_succ, i64_w, i32_w]
    rfl
  refine pure_ (i := 8) (N := some 29) (v := ?_) (a' := ?_) #[true, true, true, true, true, false, false, false, true, false, false, false, false] rfl rfl (by kernel_rfl) (fun _ _ _ h => h) (Or.inl ⟨by rfl, ?_⟩) ?_ ?_
  rotate_left
  · intro w'
    go_simp
    with_reducible rfl
  rotate_left
  · simp only [Act.put, List.setIfInBounds_toArray, List.set_cons_zero, List.set_cons_succ, i64_w, i32_w]
    rfl
  refine pure_ (i := 9) (N := some 30) (v := ?_) (a' := ?_) #[true, true, true, true, true, false, false, false, true, true, false, false, false] rfl rfl (by kernel_rfl) (fun _ _ _ h => h) (Or.inl ⟨by rfl, ?_⟩) ?_ ?_
  rotate_left
  · intro w'
    go_simp
    with_reducible rfl
  rotate_left
  · simp only [Act.put, List.setIfInBounds_toArray, List.set_cons_zero, List.set_cons_succ, i64_w, i32_w]
    rfl
  refine two_ (i := 5) (j := 11) (Ni := some 26) (Nj := some 7) #[true, true, true, true, true, true, false, false, true, true, false, false, false] #[true, true, true, true, true, false, false, false, true, true, false, true, false] rfl rfl rfl rfl (by kernel_rfl) (by decide) (by decide) (fun K hK => ?_) (fun K hK => ?_)
  · skip
    apply call_e Try.func50 (args := #[.pointer (some ⟨bx, 0, none⟩), .int .i64 2]); (case hname => kernel_rfl); (case hb => rfl); (case hop => rfl); (case hN => rfl); (case hw => rfl); (case hargs => ((try simp only [List.map_toArray, List.map_cons, List.map_nil]); first | done | rfl)); (case hcl => exact number_at (g := bx) (k := 2) (by first | exact HA.out | exact HA.out.any rfl rfl rfl rfl) (by repeat (first | exact Holds.At.here | apply Holds.At.there)) HL.out HC.out (by first | exact pos_le _ _ _ | exact Nat.zero_le _ | omega) (by decide) (HS.out.mono (by simp)) hby.out); rintro e w1 ⟨rfl, HB_⟩; refine ⟨_, rfl, ?_⟩; (clear HA; have HA := Aside0.mk HB_; clear HB_)
    refine hK.out _ _ (by first | exact HA.out.none | exact (HA.out.any rfl rfl rfl rfl).none) (fun hHeld => ?_)
    clear hK K
    refine norm_ (a' := ?_) ?_ ?_
    rotate_left
    · show Act.put _ (some 26) _ = _
      simp only [Act.put, List.setIfInBounds_toArray, List.set_cons_zero, List.set_cons_succ, i64_w, i32_w]
      rfl
    refine two_ (i := 6) (j := 11) (Ni := some 27) (Nj := some 7) #[true, true, true, true, true, true, true, false, true, true, false, false, false] #[true, true, true, true, true, true, false, false, true, true, false, true, false] rfl rfl rfl rfl (by kernel_rfl) (by decide) (by decide) (fun K hK => ?_) (fun K hK => ?_)
    · skip
      apply call_e Try.func51 (args := #[.pointer (some ⟨bx, 0, none⟩), .int .i64 (leVal (nxt l0 (pos l0 (pos l0 (pos l0 0 1) 1) (leVal (nxt l0 (pos l0 0 1) 1)).toNat) 2))]); (case hname => kernel_rfl); (case hb => rfl); (case hop => rfl); (case hN => rfl); (case hw => rfl); (case hargs => ((try simp only [List.map_toArray, List.map_cons, List.map_nil]); first | done | rfl)); (case hcl => exact next_at (by first | exact HA.out | exact HA.out.any rfl rfl rfl rfl) (by repeat (first | exact Holds.At.here | apply Holds.At.there)) HL.out HC.out (by exact pos_le _ _ _) HK2.out.1 HK2.out.2 HS.out); rintro e w1 ⟨A2, d2, rfl, hd2, hs2, HB_⟩; refine ⟨_, rfl, ?_⟩; (clear HA; have HA := Aside0.mk HB_; clear HB_; have HS2 := Aside0.mk hs2; clear hs2 hd2)
      refine hK.out _ _ (by first | exact HA.out.none | exact (HA.out.any rfl rfl rfl rfl).none) (fun hHeld => ?_)
      clear hK K
      refine norm_ (a' := ?_) ?_ ?_
      rotate_left
      · show Act.put _ (some 27) _ = _
        simp only [Act.put, List.setIfInBounds_toArray, List.set_cons_zero, List.set_cons_succ, i64_w, i32_w]
        rfl
      refine take_ (i := 7) (N := some 28) (v := (.string (strOfNums (nxt l0 (pos l0 (pos l0 (pos l0 (pos l0 0 1) 1) (leVal (nxt l0 (pos l0 0 1) 1)).toNat) 2) (leVal (nxt l0 (pos l0 (pos l0 (pos l0 0 1) 1) (leVal (nxt l0 (pos l0 0 1) 1)).toNat) 2)).toNat)))) (a' := ?_) #[true, true, true, true, true, true, true, true, true, true, false, false, false] rfl rfl (by kernel_rfl) (fun _ _ _ h => h) (Or.inl ⟨by rfl, ?_⟩) (by first | exact HA.out.none | exact (HA.out.any rfl rfl rfl rfl).none) ?_ ?_
      · intro w' s0
        (apply run_text; (case hop => rfl); (case hev => conv => lhs; whnf); (case hv => rfl); (case hs => exact Try.underlying34); (case hd => exact Try.underlying9); (case he => exact Try.underlying5); (case hSr => exact HS2.out); (case hl => (have := nxt_le l0 (pos l0 (pos l0 (pos l0 (pos l0 0 1) 1) (leVal (nxt l0 (pos l0 0 1) 1)).toNat) 2) (leVal (nxt l0 (pos l0 (pos l0 (pos l0 0 1) 1) (leVal (nxt l0 (pos l0 0 1) 1)).toNat) 2)).toNat; have := HK2.out; omega)); (case HH => exact s0))
      rotate_left
      · simp only [Act.put, List.setIfInBounds_toArray, List.set_cons_zero, List.set_cons_succ, i64_w, i32_w]
        rfl
      refine pure_ (i := 10) (N := some 31) (v := ?_) (a' := ?_) #[true, true, true, true, true, true, true, true, true, true, true, false, false] rfl rfl (by kernel_rfl) (fun _ _ _ h => h) (Or.inl ⟨by rfl, ?_⟩) ?_ ?_
      rotate_left
      · intro w'
        go_simp
        with_reducible rfl
      rotate_left
      · simp only [Act.put, List.setIfInBounds_toArray, List.set_cons_zero, List.set_cons_succ, i64_w, i32_w]
        rfl
      refine one_ (i := 11) (N := some 7) #[true, true, true, true, true, true, true, true, true, true, true, true, false] rfl rfl (by kernel_rfl) (by decide) (fun K hK => ?_)
      apply alloc_e (z := .agg #[.string ⟨#[]⟩, .string ⟨#[]⟩, .bool false]); (case HH => first | exact HA.out | exact HA.out.any rfl rfl rfl rfl); (case hop => rfl); (case hN => rfl); (case hw => rfl); (case hz => kernel_rfl); (case hx => rfl); intro bn w1 HB_; clear HA; have HA := Aside0.mk HB_; clear HB_
      refine hK.out _ _ (by first | exact HA.out.none | exact (HA.out.any rfl rfl rfl rfl).none) (fun hHeld => ?_)
      clear hK K
      refine norm_ (a' := ?_) ?_ ?_
      rotate_left
      · show Act.put _ (some 7) _ = _
        simp only [Act.put, List.setIfInBounds_toArray, List.set_cons_zero, List.set_cons_succ, i64_w, i32_w]
        rfl
      refine one_ (i := 12) (N := none) #[true, true, true, true, true, true, true, true, true, true, true, true, true] rfl rfl (by kernel_rfl) (by decide) (fun K hK => ?_)
      apply store_e; (case HH => first | exact HA.out | exact HA.out.any rfl rfl rfl rfl); (case hop => rfl); (case hN => rfl); (case hw => rfl); (case hx => rfl); (case hev => conv => lhs; whnf); (case hy => rfl); (case hm => repeat (first | exact Holds.At.here | apply Holds.At.there)); (case hl => rfl); (case hn => kernel_rfl); (case h1 => simp [Value.oneCell']); (case hi => simp); intro w1 HB_; simp only [splice, List.set_cons_zero, List.set_cons_succ] at HB_; clear HA; have HA := Aside0.mk HB_; clear HB_
      refine hK.out _ _ (by first | exact HA.out.none | exact (HA.out.any rfl rfl rfl rfl).none) (fun hHeld => ?_)
      clear hK K
      refine done_ (by kernel_rfl) ?_
      go_wp2_with (first     | ((with_reducible apply load1_); (case HH => first | exact HA.out | exact HA.out.any rfl rfl rfl rfl); (case ht => rfl); (case hx => rfl); (case hw => rfl); (case hm => repeat (first | exact List.Mem.head _ | refine List.Mem.tail _ ?_)); (case hv => exact rfl); simp only [Act.put, List.setIfInBounds_toArray, List.set_cons_zero, List.set_cons_succ])     | ((with_reducible apply loadN_ (n := 3)); (case HH => first | exact HA.out | exact HA.out.any rfl rfl rfl rfl); (case ht => rfl); (case hn => decide +kernel); (case hx => rfl); (case hw => rfl); (case hm => repeat (first | exact List.Mem.head _ | refine List.Mem.tail _ ?_)); (case hv => first | (simp only [List.drop_succ_cons, List.drop_zero, List.take_succ_cons, List.take_zero]; rfl) | rfl); (case hl => rfl); simp only [Act.put, List.setIfInBounds_toArray, List.set_cons_zero, List.set_cons_succ])     | ((with_reducible apply box_); (case HH => first | exact HA.out | exact HA.out.any rfl rfl rfl rfl); (case hw => rfl); (case hev => conv => lhs; whnf); (case hy => rfl); intro bx w1 HB_; simp only [Act.put, List.setIfInBounds_toArray, List.set_cons_zero, List.set_cons_succ]; clear HA; have HA := Aside0.mk HB_; clear HB_)     | ((with_reducible apply alloc_ (z := .agg #[.string ⟨#[]⟩, .string ⟨#[]⟩, .bool false])); (case HH => first | exact HA.out | exact HA.out.any rfl rfl rfl rfl); (case hw => rfl); (case hz => kernel_rfl); (case hx => rfl); intro bx w1 HB_; simp only [Act.put, List.setIfInBounds_toArray, List.set_cons_zero, List.set_cons_succ]; clear HA; have HA := Aside0.mk HB_; clear HB_)     | ((with_reducible apply store_); (case HH => first | exact HA.out | exact HA.out.any rfl rfl rfl rfl); (case hw => rfl); (case hx => rfl); (case hev => conv => lhs; whnf); (case hy => rfl); (case hm => repeat (first | exact Holds.At.here | apply Holds.At.there)); (case hl => rfl); (case hn => kernel_rfl); (case h1 => simp [Value.oneCell']); (case hi => simp); intro w1 HB_; simp only [splice, List.set_cons_zero, List.set_cons_succ] at HB_; clear HA; have HA := Aside0.mk HB_; clear HB_)     | (go_at_call 50; (with_reducible apply Calls.mono); (case h => exact number_at (by first | exact HA.out | exact HA.out.any rfl rfl rfl rfl) (by repeat (first | exact Holds.At.here | apply Holds.At.there)) HL.out HC.out (by first | exact pos_le _ _ _ | exact Nat.zero_le _ | omega) (by decide) (HS.out.mono (by simp)) hby.out); rintro e w1 ⟨rfl, HB_⟩; clear HA; have HA := Aside0.mk HB_; clear HB_)     | (go_at_call 52; (with_reducible apply Calls.mono); (case h => exact done_calls _ _ _ _ l0 w _ _ [] (by first | exact HA.out | exact HA.out.any rfl rfl rfl rfl) (by repeat (first | exact List.Mem.head _ | refine List.Mem.tail _ ?_))); rintro e w' ⟨rfl, ⟨nd, rfl⟩⟩)     | (go_at_call 22; (with_reducible refine (node_Right.calls _ _ _ _ _ HR.out).mono ?_); rintro e w1 ⟨rfl, hb_⟩; have HB_ := HA.out.call1 hb_ rfl rfl rfl rfl; clear hb_; clear HA; have HA := Aside0.mk HB_; clear HB_)); (apply end_list [.cell 2 32, .tmp 3]; (case hres => rfl); (case hd => rfl); (case hvs => apply vcell (by first | exact HA.out | exact HA.out.any rfl rfl rfl rfl); (case hp => rfl); (case hm => repeat (first | exact List.Mem.head _ | refine List.Mem.tail _ ?_)); (case hag => rfl); (case hi => kernel_rfl); (case hvs => apply Vals.tmp; exact .nil)); (case hl => simp); (case hR => exact ⟨rfl, HA.out.below⟩))
    · skip
      apply alloc_e (z := .agg #[.string ⟨#[]⟩, .string ⟨#[]⟩, .bool false]); (case HH => first | exact HA.out | exact HA.out.any rfl rfl rfl rfl); (case hop => rfl); (case hN => rfl); (case hw => rfl); (case hz => kernel_rfl); (case hx => rfl); intro bn w1 HB_; clear HA; have HA := Aside0.mk HB_; clear HB_
      refine hK.out _ _ (by first | exact HA.out.none | exact (HA.out.any rfl rfl rfl rfl).none) (fun hHeld => ?_)
      clear hK K
      refine norm_ (a' := ?_) ?_ ?_
      rotate_left
      · show Act.put _ (some 7) _ = _
        simp only [Act.put, List.setIfInBounds_toArray, List.set_cons_zero, List.set_cons_succ, i64_w, i32_w]
        rfl
      refine one_ (i := 6) (N := some 27) #[true, true, true, true, true, true, true, false, true, true, false, true, false] rfl rfl (by kernel_rfl) (by decide) (fun K hK => ?_)
      apply call_e Try.func51 (args := #[.pointer (some ⟨bx, 0, none⟩), .int .i64 (leVal (nxt l0 (pos l0 (pos l0 (pos l0 0 1) 1) (leVal (nxt l0 (pos l0 0 1) 1)).toNat) 2))]); (case hname => kernel_rfl); (case hb => rfl); (case hop => rfl); (case hN => rfl); (case hw => rfl); (case hargs => ((try simp only [List.map_toArray, List.map_cons, List.map_nil]); first | done | rfl)); (case hcl => exact next_at (by first | exact HA.out | exact HA.out.any rfl rfl rfl rfl) (by repeat (first | exact Holds.At.here | apply Holds.At.there)) HL.out HC.out (by exact pos_le _ _ _) HK2.out.1 HK2.out.2 HS.out); rintro e w1 ⟨A2, d2, rfl, hd2, hs2, HB_⟩; refine ⟨_, rfl, ?_⟩; (clear HA; have HA := Aside0.mk HB_; clear HB_; have HS2 := Aside0.mk hs2; clear hs2 hd2)
      refine hK.out _ _ (by first | exact HA.out.none | exact (HA.out.any rfl rfl rfl rfl).none) (fun hHeld => ?_)
      clear hK K
      refine norm_ (a' := ?_) ?_ ?_
      rotate_left
      · show Act.put _ (some 27) _ = _
        simp only [Act.put, List.setIfInBounds_toArray, List.set_cons_zero, List.set_cons_succ, i64_w, i32_w]
        rfl
      refine take_ (i := 7) (N := some 28) (v := (.string (strOfNums (nxt l0 (pos l0 (pos l0 (pos l0 (pos l0 0 1) 1) (leVal (nxt l0 (pos l0 0 1) 1)).toNat) 2) (leVal (nxt l0 (pos l0 (pos l0 (pos l0 0 1) 1) (leVal (nxt l0 (pos l0 0 1) 1)).toNat) 2)).toNat)))) (a' := ?_) #[true, true, true, true, true, true, true, true, true, true, false, true, false] rfl rfl (by kernel_rfl) (fun _ _ _ h => h) (Or.inl ⟨by rfl, ?_⟩) (by first | exact HA.out.none | exact (HA.out.any rfl rfl rfl rfl).none) ?_ ?_
      · intro w' s0
        (apply run_text; (case hop => rfl); (case hev => conv => lhs; whnf); (case hv => rfl); (case hs => exact Try.underlying34); (case hd => exact Try.underlying9); (case he => exact Try.underlying5); (case hSr => exact HS2.out); (case hl => (have := nxt_le l0 (pos l0 (pos l0 (pos l0 (pos l0 0 1) 1) (leVal (nxt l0 (pos l0 0 1) 1)).toNat) 2) (leVal (nxt l0 (pos l0 (pos l0 (pos l0 0 1) 1) (leVal (nxt l0 (pos l0 0 1) 1)).toNat) 2)).toNat; have := HK2.out; omega)); (case HH => exact s0))
      rotate_left
      · simp only [Act.put, List.setIfInBounds_toArray, List.set_cons_zero, List.set_cons_succ, i64_w, i32_w]
        rfl
      refine pure_ (i := 10) (N := some 31) (v := ?_) (a' := ?_) #[true, true, true, true, true, true, true, true, true, true, true, true, false] rfl rfl (by kernel_rfl) (fun _ _ _ h => h) (Or.inl ⟨by rfl, ?_⟩) ?_ ?_
      rotate_left
      · intro w'
        go_simp
        with_reducible rfl
      rotate_left
      · simp only [Act.put, List.setIfInBounds_toArray, List.set_cons_zero, List.set_cons_succ, i64_w, i32_w]
        rfl
      refine one_ (i := 12) (N := none) #[true, true, true, true, true, true, true, true, true, true, true, true, true] rfl rfl (by kernel_rfl) (by decide) (fun K hK => ?_)
      apply store_e; (case HH => first | exact HA.out | exact HA.out.any rfl rfl rfl rfl); (case hop => rfl); (case hN => rfl); (case hw => rfl); (case hx => rfl); (case hev => conv => lhs; whnf); (case hy => rfl); (case hm => repeat (first | exact Holds.At.here | apply Holds.At.there)); (case hl => rfl); (case hn => kernel_rfl); (case h1 => simp [Value.oneCell']); (case hi => simp); intro w1 HB_; simp only [splice, List.set_cons_zero, List.set_cons_succ] at HB_; clear HA; have HA := Aside0.mk HB_; clear HB_
      refine hK.out _ _ (by first | exact HA.out.none | exact (HA.out.any rfl rfl rfl rfl).none) (fun hHeld => ?_)
      clear hK K
      refine done_ (by kernel_rfl) ?_
      go_wp2_with (first     | ((with_reducible apply load1_); (case HH => first | exact HA.out | exact HA.out.any rfl rfl rfl rfl); (case ht => rfl); (case hx => rfl); (case hw => rfl); (case hm => repeat (first | exact List.Mem.head _ | refine List.Mem.tail _ ?_)); (case hv => exact rfl); simp only [Act.put, List.setIfInBounds_toArray, List.set_cons_zero, List.set_cons_succ])     | ((with_reducible apply loadN_ (n := 3)); (case HH => first | exact HA.out | exact HA.out.any rfl rfl rfl rfl); (case ht => rfl); (case hn => decide +kernel); (case hx => rfl); (case hw => rfl); (case hm => repeat (first | exact List.Mem.head _ | refine List.Mem.tail _ ?_)); (case hv => first | (simp only [List.drop_succ_cons, List.drop_zero, List.take_succ_cons, List.take_zero]; rfl) | rfl); (case hl => rfl); simp only [Act.put, List.setIfInBounds_toArray, List.set_cons_zero, List.set_cons_succ])     | ((with_reducible apply box_); (case HH => first | exact HA.out | exact HA.out.any rfl rfl rfl rfl); (case hw => rfl); (case hev => conv => lhs; whnf); (case hy => rfl); intro bx w1 HB_; simp only [Act.put, List.setIfInBounds_toArray, List.set_cons_zero, List.set_cons_succ]; clear HA; have HA := Aside0.mk HB_; clear HB_)     | ((with_reducible apply alloc_ (z := .agg #[.string ⟨#[]⟩, .string ⟨#[]⟩, .bool false])); (case HH => first | exact HA.out | exact HA.out.any rfl rfl rfl rfl); (case hw => rfl); (case hz => kernel_rfl); (case hx => rfl); intro bx w1 HB_; simp only [Act.put, List.setIfInBounds_toArray, List.set_cons_zero, List.set_cons_succ]; clear HA; have HA := Aside0.mk HB_; clear HB_)     | ((with_reducible apply store_); (case HH => first | exact HA.out | exact HA.out.any rfl rfl rfl rfl); (case hw => rfl); (case hx => rfl); (case hev => conv => lhs; whnf); (case hy => rfl); (case hm => repeat (first | exact Holds.At.here | apply Holds.At.there)); (case hl => rfl); (case hn => kernel_rfl); (case h1 => simp [Value.oneCell']); (case hi => simp); intro w1 HB_; simp only [splice, List.set_cons_zero, List.set_cons_succ] at HB_; clear HA; have HA := Aside0.mk HB_; clear HB_)     | (go_at_call 50; (with_reducible apply Calls.mono); (case h => exact number_at (by first | exact HA.out | exact HA.out.any rfl rfl rfl rfl) (by repeat (first | exact Holds.At.here | apply Holds.At.there)) HL.out HC.out (by first | exact pos_le _ _ _ | exact Nat.zero_le _ | omega) (by decide) (HS.out.mono (by simp)) hby.out); rintro e w1 ⟨rfl, HB_⟩; clear HA; have HA := Aside0.mk HB_; clear HB_)     | (go_at_call 52; (with_reducible apply Calls.mono); (case h => exact done_calls _ _ _ _ l0 w _ _ [] (by first | exact HA.out | exact HA.out.any rfl rfl rfl rfl) (by repeat (first | exact List.Mem.head _ | refine List.Mem.tail _ ?_))); rintro e w' ⟨rfl, ⟨nd, rfl⟩⟩)     | (go_at_call 22; (with_reducible refine (node_Right.calls _ _ _ _ _ HR.out).mono ?_); rintro e w1 ⟨rfl, hb_⟩; have HB_ := HA.out.call1 hb_ rfl rfl rfl rfl; clear hb_; clear HA; have HA := Aside0.mk HB_; clear HB_)); (apply end_list [.cell 2 32, .tmp 3]; (case hres => rfl); (case hd => rfl); (case hvs => apply vcell (by first | exact HA.out | exact HA.out.any rfl rfl rfl rfl); (case hp => rfl); (case hm => repeat (first | exact List.Mem.head _ | refine List.Mem.tail _ ?_)); (case hag => rfl); (case hi => kernel_rfl); (case hvs => apply Vals.tmp; exact .nil)); (case hl => simp); (case hR => exact ⟨rfl, HA.out.below⟩))
  · skip
    apply alloc_e (z := .agg #[.string ⟨#[]⟩, .string ⟨#[]⟩, .bool false]); (case HH => first | exact HA.out | exact HA.out.any rfl rfl rfl rfl); (case hop => rfl); (case hN => rfl); (case hw => rfl); (case hz => kernel_rfl); (case hx => rfl); intro bn w1 HB_; clear HA; have HA := Aside0.mk HB_; clear HB_
    refine hK.out _ _ (by first | exact HA.out.none | exact (HA.out.any rfl rfl rfl rfl).none) (fun hHeld => ?_)
    clear hK K
    refine norm_ (a' := ?_) ?_ ?_
    rotate_left
    · show Act.put _ (some 7) _ = _
      simp only [Act.put, List.setIfInBounds_toArray, List.set_cons_zero, List.set_cons_succ, i64_w, i32_w]
      rfl
    refine one_ (i := 5) (N := some 26) #[true, true, true, true, true, true, false, false, true, true, false, true, false] rfl rfl (by kernel_rfl) (by decide) (fun K hK => ?_)
    apply call_e Try.func50 (args := #[.pointer (some ⟨bx, 0, none⟩), .int .i64 2]); (case hname => kernel_rfl); (case hb => rfl); (case hop => rfl); (case hN => rfl); (case hw => rfl); (case hargs => ((try simp only [List.map_toArray, List.map_cons, List.map_nil]); first | done | rfl)); (case hcl => exact number_at (g := bx) (k := 2) (by first | exact HA.out | exact HA.out.any rfl rfl rfl rfl) (by repeat (first | exact Holds.At.here | apply Holds.At.there)) HL.out HC.out (by first | exact pos_le _ _ _ | exact Nat.zero_le _ | omega) (by decide) (HS.out.mono (by simp)) hby.out); rintro e w1 ⟨rfl, HB_⟩; refine ⟨_, rfl, ?_⟩; (clear HA; have HA := Aside0.mk HB_; clear HB_)
    refine hK.out _ _ (by first | exact HA.out.none | exact (HA.out.any rfl rfl rfl rfl).none) (fun hHeld => ?_)
    clear hK K
    refine norm_ (a' := ?_) ?_ ?_
    rotate_left
    · show Act.put _ (some 26) _ = _
      simp only [Act.put, List.setIfInBounds_toArray, List.set_cons_zero, List.set_cons_succ, i64_w, i32_w]
      rfl
    refine one_ (i := 6) (N := some 27) #[true, true, true, true, true, true, true, false, true, true, false, true, false] rfl rfl (by kernel_rfl) (by decide) (fun K hK => ?_)
    apply call_e Try.func51 (args := #[.pointer (some ⟨bx, 0, none⟩), .int .i64 (leVal (nxt l0 (pos l0 (pos l0 (pos l0 0 1) 1) (leVal (nxt l0 (pos l0 0 1) 1)).toNat) 2))]); (case hname => kernel_rfl); (case hb => rfl); (case hop => rfl); (case hN => rfl); (case hw => rfl); (case hargs => ((try simp only [List.map_toArray, List.map_cons, List.map_nil]); first | done | rfl)); (case hcl => exact next_at (by first | exact HA.out | exact HA.out.any rfl rfl rfl rfl) (by repeat (first | exact Holds.At.here | apply Holds.At.there)) HL.out HC.out (by exact pos_le _ _ _) HK2.out.1 HK2.out.2 HS.out); rintro e w1 ⟨A2, d2, rfl, hd2, hs2, HB_⟩; refine ⟨_, rfl, ?_⟩; (clear HA; have HA := Aside0.mk HB_; clear HB_; have HS2 := Aside0.mk hs2; clear hs2 hd2)
    refine hK.out _ _ (by first | exact HA.out.none | exact (HA.out.any rfl rfl rfl rfl).none) (fun hHeld => ?_)
    clear hK K
    refine norm_ (a' := ?_) ?_ ?_
    rotate_left
    · show Act.put _ (some 27) _ = _
      simp only [Act.put, List.setIfInBounds_toArray, List.set_cons_zero, List.set_cons_succ, i64_w, i32_w]
      rfl
    refine take_ (i := 7) (N := some 28) (v := (.string (strOfNums (nxt l0 (pos l0 (pos l0 (pos l0 (pos l0 0 1) 1) (leVal (nxt l0 (pos l0 0 1) 1)).toNat) 2) (leVal (nxt l0 (pos l0 (pos l0 (pos l0 0 1) 1) (leVal (nxt l0 (pos l0 0 1) 1)).toNat) 2)).toNat)))) (a' := ?_) #[true, true, true, true, true, true, true, true, true, true, false, true, false] rfl rfl (by kernel_rfl) (fun _ _ _ h => h) (Or.inl ⟨by rfl, ?_⟩) (by first | exact HA.out.none | exact (HA.out.any rfl rfl rfl rfl).none) ?_ ?_
    · intro w' s0
      (apply run_text; (case hop => rfl); (case hev => conv => lhs; whnf); (case hv => rfl); (case hs => exact Try.underlying34); (case hd => exact Try.underlying9); (case he => exact Try.underlying5); (case hSr => exact HS2.out); (case hl => (have := nxt_le l0 (pos l0 (pos l0 (pos l0 (pos l0 0 1) 1) (leVal (nxt l0 (pos l0 0 1) 1)).toNat) 2) (leVal (nxt l0 (pos l0 (pos l0 (pos l0 0 1) 1) (leVal (nxt l0 (pos l0 0 1) 1)).toNat) 2)).toNat; have := HK2.out; omega)); (case HH => exact s0))
    rotate_left
    · simp only [Act.put, List.setIfInBounds_toArray, List.set_cons_zero, List.set_cons_succ, i64_w, i32_w]
      rfl
    refine pure_ (i := 10) (N := some 31) (v := ?_) (a' := ?_) #[true, true, true, true, true, true, true, true, true, true, true, true, false] rfl rfl (by kernel_rfl) (fun _ _ _ h => h) (Or.inl ⟨by rfl, ?_⟩) ?_ ?_
    rotate_left
    · intro w'
      go_simp
      with_reducible rfl
    rotate_left
    · simp only [Act.put, List.setIfInBounds_toArray, List.set_cons_zero, List.set_cons_succ, i64_w, i32_w]
      rfl
    refine one_ (i := 12) (N := none) #[true, true, true, true, true, true, true, true, true, true, true, true, true] rfl rfl (by kernel_rfl) (by decide) (fun K hK => ?_)
    apply store_e; (case HH => first | exact HA.out | exact HA.out.any rfl rfl rfl rfl); (case hop => rfl); (case hN => rfl); (case hw => rfl); (case hx => rfl); (case hev => conv => lhs; whnf); (case hy => rfl); (case hm => repeat (first | exact Holds.At.here | apply Holds.At.there)); (case hl => rfl); (case hn => kernel_rfl); (case h1 => simp [Value.oneCell']); (case hi => simp); intro w1 HB_; simp only [splice, List.set_cons_zero, List.set_cons_succ] at HB_; clear HA; have HA := Aside0.mk HB_; clear HB_
    refine hK.out _ _ (by first | exact HA.out.none | exact (HA.out.any rfl rfl rfl rfl).none) (fun hHeld => ?_)
    clear hK K
    refine done_ (by kernel_rfl) ?_
    go_wp2_with (first     | ((with_reducible apply load1_); (case HH => first | exact HA.out | exact HA.out.any rfl rfl rfl rfl); (case ht => rfl); (case hx => rfl); (case hw => rfl); (case hm => repeat (first | exact List.Mem.head _ | refine List.Mem.tail _ ?_)); (case hv => exact rfl); simp only [Act.put, List.setIfInBounds_toArray, List.set_cons_zero, List.set_cons_succ])     | ((with_reducible apply loadN_ (n := 3)); (case HH => first | exact HA.out | exact HA.out.any rfl rfl rfl rfl); (case ht => rfl); (case hn => decide +kernel); (case hx => rfl); (case hw => rfl); (case hm => repeat (first | exact List.Mem.head _ | refine List.Mem.tail _ ?_)); (case hv => first | (simp only [List.drop_succ_cons, List.drop_zero, List.take_succ_cons, List.take_zero]; rfl) | rfl); (case hl => rfl); simp only [Act.put, List.setIfInBounds_toArray, List.set_cons_zero, List.set_cons_succ])     | ((with_reducible apply box_); (case HH => first | exact HA.out | exact HA.out.any rfl rfl rfl rfl); (case hw => rfl); (case hev => conv => lhs; whnf); (case hy => rfl); intro bx w1 HB_; simp only [Act.put, List.setIfInBounds_toArray, List.set_cons_zero, List.set_cons_succ]; clear HA; have HA := Aside0.mk HB_; clear HB_)     | ((with_reducible apply alloc_ (z := .agg #[.string ⟨#[]⟩, .string ⟨#[]⟩, .bool false])); (case HH => first | exact HA.out | exact HA.out.any rfl rfl rfl rfl); (case hw => rfl); (case hz => kernel_rfl); (case hx => rfl); intro bx w1 HB_; simp only [Act.put, List.setIfInBounds_toArray, List.set_cons_zero, List.set_cons_succ]; clear HA; have HA := Aside0.mk HB_; clear HB_)     | ((with_reducible apply store_); (case HH => first | exact HA.out | exact HA.out.any rfl rfl rfl rfl); (case hw => rfl); (case hx => rfl); (case hev => conv => lhs; whnf); (case hy => rfl); (case hm => repeat (first | exact Holds.At.here | apply Holds.At.there)); (case hl => rfl); (case hn => kernel_rfl); (case h1 => simp [Value.oneCell']); (case hi => simp); intro w1 HB_; simp only [splice, List.set_cons_zero, List.set_cons_succ] at HB_; clear HA; have HA := Aside0.mk HB_; clear HB_)     | (go_at_call 50; (with_reducible apply Calls.mono); (case h => exact number_at (by first | exact HA.out | exact HA.out.any rfl rfl rfl rfl) (by repeat (first | exact Holds.At.here | apply Holds.At.there)) HL.out HC.out (by first | exact pos_le _ _ _ | exact Nat.zero_le _ | omega) (by decide) (HS.out.mono (by simp)) hby.out); rintro e w1 ⟨rfl, HB_⟩; clear HA; have HA := Aside0.mk HB_; clear HB_)     | (go_at_call 52; (with_reducible apply Calls.mono); (case h => exact done_calls _ _ _ _ l0 w _ _ [] (by first | exact HA.out | exact HA.out.any rfl rfl rfl rfl) (by repeat (first | exact List.Mem.head _ | refine List.Mem.tail _ ?_))); rintro e w' ⟨rfl, ⟨nd, rfl⟩⟩)     | (go_at_call 22; (with_reducible refine (node_Right.calls _ _ _ _ _ HR.out).mono ?_); rintro e w1 ⟨rfl, hb_⟩; have HB_ := HA.out.call1 hb_ rfl rfl rfl rfl; clear hb_; clear HA; have HA := Aside0.mk HB_; clear HB_)); (apply end_list [.cell 2 32, .tmp 3]; (case hres => rfl); (case hd => rfl); (case hvs => apply vcell (by first | exact HA.out | exact HA.out.any rfl rfl rfl rfl); (case hp => rfl); (case hm => repeat (first | exact List.Mem.head _ | refine List.Mem.tail _ ?_)); (case hag => rfl); (case hi => kernel_rfl); (case hvs => apply Vals.tmp; exact .nil)); (case hl => simp); (case hR => exact ⟨rfl, HA.out.below⟩))
set_option maxHeartbeats 8000000 in
set_option maxRecDepth 100000 in
theorem unpack_ok2 (A0 : Option Addr) (c0 : Nat) (l0 : List Int) (w : World) (hr0 : Kd.C (Kd.int .u8) w A0 l0.length l0) (hc0 : l0.length ≤ c0) (hl : l0.length ≤ 281474976710656) (hb : Bytes l0) (f0 : (leVal (nxt l0 0 1) == 1) = false) (f1 : (leVal (nxt l0 0 1) != 1) = true) (f2 : (leVal (nxt l0 0 1) == 2) = true) (f3 : (leVal (nxt l0 0 1) != 2) = false) (f4 : ((((pos l0 (pos l0 (pos l0 (pos l0 (pos l0 0 1) 1) (leVal (nxt l0 (pos l0 0 1) 1)).toNat) 2) (leVal (nxt l0 (pos l0 (pos l0 (pos l0 0 1) 1) (leVal (nxt l0 (pos l0 0 1) 1)).toNat) 2)).toNat) : Nat) : Int) == (l0.length : Int)) = true) (f5 : node_Right.f (strOfNums (nxt l0 (pos l0 (pos l0 0 1) 1) (leVal (nxt l0 (pos l0 0 1) 1)).toNat)) (strOfNums (nxt l0 (pos l0 (pos l0 (pos l0 (pos l0 0 1) 1) (leVal (nxt l0 (pos l0 0 1) 1)).toNat) 2) (leVal (nxt l0 (pos l0 (pos l0 (pos l0 0 1) 1) (leVal (nxt l0 (pos l0 0 1) 1)).toNat) 2)).toNat)) true = some true) :
    Calls Try.prog 26 #[.slice A0 l0.length c0] w fun e w' => e = .returned (.tuple #[.agg #[.string (strOfNums (nxt l0 (pos l0 (pos l0 0 1) 1) (leVal (nxt l0 (pos l0 0 1) 1)).toNat)), .string (strOfNums (nxt l0 (pos l0 (pos l0 (pos l0 (pos l0 0 1) 1) (leVal (nxt l0 (pos l0 0 1) 1)).toNat) 2) (leVal (nxt l0 (pos l0 (pos l0 (pos l0 0 1) 1) (leVal (nxt l0 (pos l0 0 1) 1)).toNat) 2)).toNat)), .bool true], .bool true]) ∧ Below w.heap.size w w' := by
  have HS : Aside0 (Src (Value.int .u8) w [] A0 l0) := Aside0.mk (Src.of_C (h1 := fun _ => rfl) hr0)
  have HL := Aside0.mk hl
  have hby := Aside0.mk hb
  have HC := Aside0.mk hc0
  have HA := Aside0.mk (Holds.start w)
  have HK1 := Aside0.mk (show (leVal (nxt l0 (pos l0 0 1) 1)).toNat ≤ 1048576 ∧ leVal (nxt l0 (pos l0 0 1) 1) = ((leVal (nxt l0 (pos l0 0 1) 1)).toNat : Int) from by have := leVal_small (hb.nxt (pos l0 0 1) 1) (nxt_le l0 _ 1); omega)
  have HK2 := Aside0.mk (show (leVal (nxt l0 (pos l0 (pos l0 (pos l0 0 1) 1) (leVal (nxt l0 (pos l0 0 1) 1)).toNat) 2)).toNat ≤ 1048576 ∧ leVal (nxt l0 (pos l0 (pos l0 (pos l0 0 1) 1) (leVal (nxt l0 (pos l0 0 1) 1)).toNat) 2) = ((leVal (nxt l0 (pos l0 (pos l0 (pos l0 0 1) 1) (leVal (nxt l0 (pos l0 0 1) 1)).toNat) 2)).toNat : Int) from by have := leVal_small2 (hb.nxt (pos l0 (pos l0 (pos l0 0 1) 1) (leVal (nxt l0 (pos l0 0 1) 1)).toNat) 2) (nxt_le l0 _ 2); omega)
  clear hr0 hl hb hc0
  have HR := Aside0.mk f5
  clear f5
  go_enter Try.func26, Try.ntmps26
  go_wp2_with (first
    | ((with_reducible apply load1_); (case HH => first | exact HA.out | exact HA.out.any rfl rfl rfl rfl); (case ht => rfl); (case hx => rfl); (case hw => rfl); (case hm => repeat (first | exact List.Mem.head _ | refine List.Mem.tail _ ?_)); (case hv => exact rfl); simp only [Act.put, List.setIfInBounds_toArray, List.set_cons_zero, List.set_cons_succ])
    | ((with_reducible apply loadN_ (n := 3)); (case HH => first | exact HA.out | exact HA.out.any rfl rfl rfl rfl); (case ht => rfl); (case hn => decide +kernel); (case hx => rfl); (case hw => rfl); (case hm => repeat (first | exact List.Mem.head _ | refine List.Mem.tail _ ?_)); (case hv => first | (simp only [List.drop_succ_cons, List.drop_zero, List.take_succ_cons, List.take_zero]; rfl) | rfl); (case hl => rfl); simp only [Act.put, List.setIfInBounds_toArray, List.set_cons_zero, List.set_cons_succ])
    | ((with_reducible apply box_); (case HH => first | exact HA.out | exact HA.out.any rfl rfl rfl rfl); (case hw => rfl); (case hev => conv => lhs; whnf); (case hy => rfl); intro bx w1 HB_; simp only [Act.put, List.setIfInBounds_toArray, List.set_cons_zero, List.set_cons_succ]; clear HA; have HA := Aside0.mk HB_; clear HB_)
    | ((with_reducible apply alloc_ (z := .agg #[.string ⟨#[]⟩, .string ⟨#[]⟩, .bool false])); (case HH => first | exact HA.out | exact HA.out.any rfl rfl rfl rfl); (case hw => rfl); (case hz => kernel_rfl); (case hx => rfl); intro bx w1 HB_; simp only [Act.put, List.setIfInBounds_toArray, List.set_cons_zero, List.set_cons_succ]; clear HA; have HA := Aside0.mk HB_; clear HB_)
    | ((with_reducible apply store_); (case HH => first | exact HA.out | exact HA.out.any rfl rfl rfl rfl); (case hw => rfl); (case hx => rfl); (case hev => conv => lhs; whnf); (case hy => rfl); (case hm => repeat (first | exact Holds.At.here | apply Holds.At.there)); (case hl => rfl); (case hn => kernel_rfl); (case h1 => simp [Value.oneCell']); (case hi => simp); intro w1 HB_; simp only [splice, List.set_cons_zero, List.set_cons_succ] at HB_; clear HA; have HA := Aside0.mk HB_; clear HB_)
    | (go_at_call 50; (with_reducible apply Calls.mono); (case h => exact number_at (by first | exact HA.out | exact HA.out.any rfl rfl rfl rfl) (by repeat (first | exact Holds.At.here | apply Holds.At.there)) HL.out HC.out (by first | exact pos_le _ _ _ | exact Nat.zero_le _ | omega) (by decide) (HS.out.mono (by simp)) hby.out); rintro e w1 ⟨rfl, HB_⟩; clear HA; have HA := Aside0.mk HB_; clear HB_)
    | (go_at_call 52; (with_reducible apply Calls.mono); (case h => exact done_calls _ _ _ _ l0 w _ _ [] (by first | exact HA.out | exact HA.out.any rfl rfl rfl rfl) (by repeat (first | exact List.Mem.head _ | refine List.Mem.tail _ ?_))); rintro e w' ⟨rfl, ⟨nd, rfl⟩⟩)
    | (go_at_call 22; (with_reducible refine (node_Right.calls _ _ _ _ _ HR.out).mono ?_); rintro e w1 ⟨rfl, hb_⟩; have HB_ := HA.out.call1 hb_ rfl rfl rfl rfl; clear hb_; clear HA; have HA := Aside0.mk HB_; clear HB_))
  refine start_H (by first | exact HA.out.none | exact (HA.out.any rfl rfl rfl rfl).none) (n := 8) [] #[false, false, false, false, false, false, false, false] (by kernel_rfl) rfl rfl ?_
  refine pure_ (i := 0) (N := some 14) (v := ?_) (a' := ?_) #[true, false, false, false, false, false, false, false] rfl rfl (by kernel_rfl) (fun _ _ _ h => h) (Or.inl ⟨by rfl, ?_⟩) ?_ ?_
  rotate_left
  · intro w'
    go_simp
    with_reducible rfl
  rotate_left
  · simp only [Act.put, List.setIfInBounds_toArray, List.set_cons_zero, List.set_cons_succ, i64_w, i32_w]
    rfl
  refine pure_ (i := 1) (N := some 15) (v := ?_) (a' := ?_) #[true, true, false, false, false, false, false, false] rfl rfl (by kernel_rfl) (fun _ _ _ h => h) (Or.inl ⟨by rfl, ?_⟩) ?_ ?_
  rotate_left
  · intro w'
    go_simp
    with_reducible rfl
  rotate_left
  · simp only [Act.put, List.setIfInBounds_toArray, List.set_cons_zero, List.set_cons_succ, i64_w, i32_w]
    rfl
  refine pure_ (i := 2) (N := some 16) (v := ?_) (a' := ?_) #[true, true, true, false, false, false, false, false] rfl rfl (by kernel_rfl) (fun _ _ _ h => h) (Or.inl ⟨by rfl, ?_⟩) ?_ ?_
  rotate_left
  · intro w'
    go_simp
    with_reducible rfl
  rotate_left
  · simp only [Act.put, List.setIfInBounds_toArray, List.set_cons_zero, List.set_cons_succ, i64_w, i32_w]
    rfl
  refine pure_ (i := 3) (N := some 17) (v := ?_) (a' := ?_) #[true, true, true, true, false, false, false, false] rfl rfl (by kernel_rfl) (fun _ _ _ h => h) (Or.inl ⟨by rfl, ?_⟩) ?_ ?_
  rotate_left
  · intro w'
    go_simp
    with_reducible rfl
  rotate_left
  · simp only [Act.put, List.setIfInBounds_toArray, List.set_cons_zero, List.set_cons_succ, i64_w, i32_w]
    rfl
  refine one_ (i := 4) (N := some 18) #[true, true, true, true, true, false, false, false] rfl rfl (by kernel_rfl) (by decide) (fun K hK => ?_)
  apply call_e Try.func50 (args := #[.pointer (some ⟨bx, 0, none⟩), .int .i64 1]); (case hname => kernel_rfl); (case hb => rfl); (case hop => rfl); (case hN => rfl); (case hw => rfl); (case hargs => ((try simp only [List.map_toArray, List.map_cons, List.map_nil]); first | done | rfl)); (case hcl => exact number_at (g := bx) (k := 1) (by first | exact HA.out | exact HA.out.any rfl rfl rfl rfl) (by repeat (first | exact Holds.At.here | apply Holds.At.there)) HL.out HC.out (by first | exact pos_le _ _ _ | exact Nat.zero_le _ | omega) (by decide) (HS.out.mono (by simp)) hby.out); rintro e w1 ⟨rfl, HB_⟩; refine ⟨_, rfl, ?_⟩; (clear HA; have HA := Aside0.mk HB_; clear HB_)
  refine hK.out _ _ (by first | exact HA.out.none | exact (HA.out.any rfl rfl rfl rfl).none) (fun hHeld => ?_)
  clear hK K
  refine norm_ (a' := ?_) ?_ ?_
  rotate_left
  · show Act.put _ (some 18) _ = _
    simp only [Act.put, List.setIfInBounds_toArray, List.set_cons_zero, List.set_cons_succ, i64_w, i32_w]
    rfl
  refine one_ (i := 5) (N := some 19) #[true, true, true, true, true, true, false, false] rfl rfl (by kernel_rfl) (by decide) (fun K hK => ?_)
  apply call_e Try.func51 (args := #[.pointer (some ⟨bx, 0, none⟩), .int .i64 (leVal (nxt l0 (pos l0 0 1) 1))]); (case hname => kernel_rfl); (case hb => rfl); (case hop => rfl); (case hN => rfl); (case hw => rfl); (case hargs => ((try simp only [List.map_toArray, List.map_cons, List.map_nil]); first | done | rfl)); (case hcl => exact next_at (by first | exact HA.out | exact HA.out.any rfl rfl rfl rfl) (by repeat (first | exact Holds.At.here | apply Holds.At.there)) HL.out HC.out (by exact pos_le _ _ _) HK1.out.1 HK1.out.2 HS.out); rintro e w1 ⟨A1, d1, rfl, hd1, hs1, HB_⟩; refine ⟨_, rfl, ?_⟩; (clear HA; have HA := Aside0.mk HB_; clear HB_; have HS1 := Aside0.mk hs1; clear hs1 hd1)
  refine hK.out _ _ (by first | exact HA.out.none | exact (HA.out.any rfl rfl rfl rfl).none) (fun hHeld => ?_)
  clear hK K
  refine norm_ (a' := ?_) ?_ ?_
  rotate_left
  · show Act.put _ (some 19) _ = _
    simp only [Act.put, List.setIfInBounds_toArray, List.set_cons_zero, List.set_cons_succ, i64_w, i32_w]
    rfl
  refine take_ (i := 6) (N := some 20) (v := (.string (strOfNums (nxt l0 (pos l0 (pos l0 0 1) 1) (leVal (nxt l0 (pos l0 0 1) 1)).toNat)))) (a' := ?_) #[true, true, true, true, true, true, true, false] rfl rfl (by kernel_rfl) (fun _ _ _ h => h) (Or.inl ⟨by rfl, ?_⟩) (by first | exact HA.out.none | exact (HA.out.any rfl rfl rfl rfl).none) ?_ ?_
  · intro w' s0
    (apply run_text; (case hop => rfl); (case hev => conv => lhs; whnf); (case hv => rfl); (case hs => exact Try.underlying34); (case hd => exact Try.underlying9); (case he => exact Try.underlying5); (case hSr => exact HS1.out); (case hl => (have := nxt_le l0 (pos l0 (pos l0 0 1) 1) (leVal (nxt l0 (pos l0 0 1) 1)).toNat; have := HK1.out; omega)); (case HH => exact s0))
  rotate_left
  · simp only [Act.put, List.setIfInBounds_toArray, List.set_cons_zero, List.set_cons_succ, i64_w, i32_w]
    rfl
  refine pure_ (i := 7) (N := some 6) (v := ?_) (a' := ?_) #[true, true, true, true, true, true, true, true] rfl rfl (by kernel_rfl) (fun _ _ _ h => h) (Or.inl ⟨by rfl, ?_⟩) ?_ ?_
  rotate_left
  · intro w'
    go_simp
    with_reducible rfl
  rotate_left
  · simp only [Act.put, List.setIfInBounds_toArray, List.set_cons_zero, List.set_cons_succ, i64_w, i32_w]
    rfl
  refine done_ (by kernel_rfl) ?_
  go_wp2
  refine start_H (by first | exact HA.out.none | exact (HA.out.any rfl rfl rfl rfl).none) (n := 13) [] #[false, false, false, false, false, false, false, false, false, false, false, false, false] (by kernel_rfl) rfl rfl ?_
  refine pure_ (i := 0) (N := some 21) (v := ?_) (a' := ?_) #[true, false, false, false, false, false, false, false, false, false, false, false, false] rfl rfl (by kernel_rfl) (fun _ _ _ h => h) (Or.inl ⟨by rfl, ?_⟩) ?_ ?_
  rotate_left
  · intro w'
    go_simp
    with_reducible rfl
  rotate_left
  · simp only [Act.put, List.setIfInBounds_toArray, List.set_cons_zero, List.set_cons_succ, i64_w, i32_w]
    rfl
  refine pure_ (i := 1) (N := some 22) (v := ?_) (a' := ?_) #[true, true, false, false, false, false, false, false, false, false, false, false, false] rfl rfl (by kernel_rfl) (fun _ _ _ h => h) (Or.inl ⟨by rfl, ?_⟩) ?_ ?_
  rotate_left
  · intro w'
    go_simp
    with_reducible rfl
  rotate_left
  · simp only [Act.put, List.setIfInBounds_toArray, List.set_cons_zero, List.set_cons_succ, i64_w, i32_w]
    rfl
  refine pure_ (i := 2) (N := some 23) (v := ?_) (a' := ?_) #[true, true, true, false, false, false, false, false, false, false, false, false, false] rfl rfl (by kernel_rfl) (fun _ _ _ h => h) (Or.inl ⟨by rfl, ?_⟩) ?_ ?_
  rotate_left
  · intro w'
    go_simp
    with_reducible rfl
  rotate_left
  · simp only [Act.put, List.setIfInBounds_toArray, List.set_cons_zero, List.set_cons_succ, i64_w, i32_w]
    rfl
  refine pure_ (i := 3) (N := some 24) (v := ?_) (a' := ?_) #[true, true, true, true, false, false, false, false, false, false, false, false, false] rfl rfl (by kernel_rfl) (fun _ _ _ h => h) (Or.inl ⟨by rfl, ?_⟩) ?_ ?_
  rotate_left
  · intro w'
    go_simp
    with_reducible rfl
  rotate_left
  · simp only [Act.put, List.setIfInBounds_toArray, List.set_cons_zero, List.set_cons_succ, i64_w, i32_w]
    rfl
  refine pure_ (i := 4) (N := some 25) (v := ?_) (a' := ?_) #[true, true, true, true, true, false, false, false, false, false, false, false, false] rfl rfl (by kernel_rfl) (fun _ _ _ h => h) (Or.inl ⟨by rfl, ?_⟩) ?_ ?_
  rotate_left
  · intro w'
    go_simp
    with_reducible rfl
  rotate_left
  · simp only [Act.put, List.setIfInBounds_toArray, List.set_cons_zero, List.set_cons_succ, i64_w, i32_w]
    rfl
  refine pure_ (i := 8) (N := some 29) (v := ?_) (a' := ?_) #[true, true, true, true, true, false, false, false, true, false, false, false, false] rfl rfl (by kernel_rfl) (fun _ _ _ h => h) (Or.inl ⟨by rfl, ?_⟩) ?_ ?_
  rotate_left
  · intro w'
    go_simp
    with_reducible rfl
  rotate_left
  · simp only [Act.put, List.setIfInBounds_toArray, List.set_cons_zero, List.set_cons_succ, i64_w, i32_w]
    rfl
  refine pure_ (i := 9) (N := some 30) (v := ?_) (a' := ?_) #[true, true, true, true, true, false, false, false, true, true, false, false, false] rfl rfl (by kernel_rfl) (fun _ _ _ h => h) (Or.inl ⟨by rfl, ?_⟩) ?_ ?_
  rotate_left
  · intro w'
    go_simp
    with_reducible rfl
  rotate_left
  · simp only [Act.put, List.setIfInBounds_toArray, List.set_cons_zero, List.set_cons_succ, i64_w, i32_w]
    rfl
  refine two_ (i := 5) (j := 11) (Ni := some 26) (Nj := some 7) #[true, true, true, true, true, true, false, false, true, true, false, false, false] #[true, true, true, true, true, false, false, false, true, true, false, true, false] rfl rfl rfl rfl (by kernel_rfl) (by decide) (by decide) (fun K hK => ?_) (fun K hK => ?_)
  · skip
    apply call_e Try.func50 (args := #[.pointer (some ⟨bx, 0, none⟩), .int .i64 2]); (case hname => kernel_rfl); (case hb => rfl); (case hop => rfl); (case hN => rfl); (case hw => rfl); (case hargs => ((try simp only [List.map_toArray, List.map_cons, List.map_nil]); first | done | rfl)); (case hcl => exact number_at (g := bx) (k := 2) (by first | exact HA.out | exact HA.out.any rfl rfl rfl rfl) (by repeat (first | exact Holds.At.here | apply Holds.At.there)) HL.out HC.out (by first | exact pos_le _ _ _ | exact Nat.zero_le _ | omega) (by decide) (HS.out.mono (by simp)) hby.out); rintro e w1 ⟨rfl, HB_⟩; refine ⟨_, rfl, ?_⟩; (clear HA; have HA := Aside0.mk HB_; clear HB_)
    refine hK.out _ _ (by first | exact HA.out.none | exact (HA.out.any rfl rfl rfl rfl).none) (fun hHeld => ?_)
    clear hK K
    refine norm_ (a' := ?_) ?_ ?_
    rotate_left
    · show Act.put _ (some 26) _ = _
      simp only [Act.put, List.setIfInBounds_toArray, List.set_cons_zero, List.set_cons_succ, i64_w, i32_w]
      rfl
    refine two_ (i := 6) (j := 11) (Ni := some 27) (Nj := some 7) #[true, true, true, true, true, true, true, false, true, true, false, false, false] #[true, true, true, true, true, true, false, false, true, true, false, true, false] rfl rfl rfl rfl (by kernel_rfl) (by decide) (by decide) (fun K hK => ?_) (fun K hK => ?_)
    · skip
      apply call_e Try.func51 (args := #[.pointer (some ⟨bx, 0, none⟩), .int .i64 (leVal (nxt l0 (pos l0 (pos l0 (pos l0 0 1) 1) (leVal (nxt l0 (pos l0 0 1) 1)).toNat) 2))]); (case hname => kernel_rfl); (case hb => rfl); (case hop => rfl); (case hN => rfl); (case hw => rfl); (case hargs => ((try simp only [List.map_toArray, List.map_cons, List.map_nil]); first | done | rfl)); (case hcl => exact next_at (by first | exact HA.out | exact HA.out.any rfl rfl rfl rfl) (by repeat (first | exact Holds.At.here | apply Holds.At.there)) HL.out HC.out (by exact pos_le _ _ _) HK2.out.1 HK2.out.2 HS.out); rintro e w1 ⟨A2, d2, rfl, hd2, hs2, HB_⟩; refine ⟨_, rfl, ?_⟩; (clear HA; have HA := Aside0.mk HB_; clear HB_; have HS2 := Aside0.mk hs2; clear hs2 hd2)
      refine hK.out _ _ (by first | exact HA.out.none | exact (HA.out.any rfl rfl rfl rfl).none) (fun hHeld => ?_)
      clear hK K
      refine norm_ (a' := ?_) ?_ ?_
      rotate_left
      · show Act.put _ (some 27) _ = _
        simp only [Act.put, List.setIfInBounds_toArray, List.set_cons_zero, List.set_cons_succ, i64_w, i32_w]
        rfl
      refine take_ (i := 7) (N := some 28) (v := (.string (strOfNums (nxt l0 (pos l0 (pos l0 (pos l0 (pos l0 0 1) 1) (leVal (nxt l0 (pos l0 0 1) 1)).toNat) 2) (leVal (nxt l0 (pos l0 (pos l0 (pos l0 0 1) 1) (leVal (nxt l0 (pos l0 0 1) 1)).toNat) 2)).toNat)))) (a' := ?_) #[true, true, true, true, true, true, true, true, true, true, false, false, false] rfl rfl (by kernel_rfl) (fun _ _ _ h => h) (Or.inl ⟨by rfl, ?_⟩) (by first | exact HA.out.none | exact (HA.out.any rfl rfl rfl rfl).none) ?_ ?_
      · intro w' s0
        (apply run_text; (case hop => rfl); (case hev => conv => lhs; whnf); (case hv => rfl); (case hs => exact Try.underlying34); (case hd => exact Try.underlying9); (case he => exact Try.underlying5); (case hSr => exact HS2.out); (case hl => (have := nxt_le l0 (pos l0 (pos l0 (pos l0 (pos l0 0 1) 1) (leVal (nxt l0 (pos l0 0 1) 1)).toNat) 2) (leVal (nxt l0 (pos l0 (pos l0 (pos l0 0 1) 1) (leVal (nxt l0 (pos l0 0 1) 1)).toNat) 2)).toNat; have := HK2.out; omega)); (case HH => exact s0))
      rotate_left
      · simp only [Act.put, List.setIfInBounds_toArray, List.set_cons_zero, List.set_cons_succ, i64_w, i32_w]
        rfl
      refine pure_ (i := 10) (N := some 31) (v := ?_) (a' := ?_) #[true, true, true, true, true, true, true, true, true, true, true, false, false] rfl rfl (by kernel_rfl) (fun _ _ _ h => h) (Or.inl ⟨by rfl, ?_⟩) ?_ ?_
      rotate_left
      · intro w'
        go_simp
        with_reducible rfl
      rotate_left
      · simp only [Act.put, List.setIfInBounds_toArray, List.set_cons_zero, List.set_cons_succ, i64_w, i32_w]
        rfl
      refine one_ (i := 11) (N := some 7) #[true, true, true, true, true, true, true, true, true, true, true, true, false] rfl rfl (by kernel_rfl) (by decide) (fun K hK => ?_)
      apply alloc_e (z := .agg #[.string ⟨#[]⟩, .string ⟨#[]⟩, .bool false]); (case HH => first | exact HA.out | exact HA.out.any rfl rfl rfl rfl); (case hop => rfl); (case hN => rfl); (case hw => rfl); (case hz => kernel_rfl); (case hx => rfl); intro bn w1 HB_; clear HA; have HA := Aside0.mk HB_; clear HB_
      refine hK.out _ _ (by first | exact HA.out.none | exact (HA.out.any rfl rfl rfl rfl).none) (fun hHeld => ?_)
      clear hK K
      refine norm_ (a' := ?_) ?_ ?_
      rotate_left
      · show Act.put _ (some 7) _ = _
        simp only [Act.put, List.setIfInBounds_toArray, List.set_cons_zero, List.set_cons_succ, i64_w, i32_w]
        rfl
      refine one_ (i := 12) (N := none) #[true, true, true, true, true, true, true, true, true, true, true, true, true] rfl rfl (by kernel_rfl) (by decide) (fun K hK => ?_)
      apply store_e; (case HH => first | exact HA.out | exact HA.out.any rfl rfl rfl rfl); (case hop => rfl); (case hN => rfl); (case hw => rfl); (case hx => rfl); (case hev => conv => lhs; whnf); (case hy => rfl); (case hm => repeat (first | exact Holds.At.here | apply Holds.At.there)); (case hl => rfl); (case hn => kernel_rfl); (case h1 => simp [Value.oneCell']); (case hi => simp); intro w1 HB_; simp only [splice, List.set_cons_zero, List.set_cons_succ] at HB_; clear HA; have HA := Aside0.mk HB_; clear HB_
      refine hK.out _ _ (by first | exact HA.out.none | exact (HA.out.any rfl rfl rfl rfl).none) (fun hHeld => ?_)
      clear hK K
      refine done_ (by kernel_rfl) ?_
      go_wp2_with (first     | ((with_reducible apply load1_); (case HH => first | exact HA.out | exact HA.out.any rfl rfl rfl rfl); (case ht => rfl); (case hx => rfl); (case hw => rfl); (case hm => repeat (first | exact List.Mem.head _ | refine List.Mem.tail _ ?_)); (case hv => exact rfl); simp only [Act.put, List.setIfInBounds_toArray, List.set_cons_zero, List.set_cons_succ])     | ((with_reducible apply loadN_ (n := 3)); (case HH => first | exact HA.out | exact HA.out.any rfl rfl rfl rfl); (case ht => rfl); (case hn => decide +kernel); (case hx => rfl); (case hw => rfl); (case hm => repeat (first | exact List.Mem.head _ | refine List.Mem.tail _ ?_)); (case hv => first | (simp only [List.drop_succ_cons, List.drop_zero, List.take_succ_cons, List.take_zero]; rfl) | rfl); (case hl => rfl); simp only [Act.put, List.setIfInBounds_toArray, List.set_cons_zero, List.set_cons_succ])     | ((with_reducible apply box_); (case HH => first | exact HA.out | exact HA.out.any rfl rfl rfl rfl); (case hw => rfl); (case hev => conv => lhs; whnf); (case hy => rfl); intro bx w1 HB_; simp only [Act.put, List.setIfInBounds_toArray, List.set_cons_zero, List.set_cons_succ]; clear HA; have HA := Aside0.mk HB_; clear HB_)     | ((with_reducible apply alloc_ (z := .agg #[.string ⟨#[]⟩, .string ⟨#[]⟩, .bool false])); (case HH => first | exact HA.out | exact HA.out.any rfl rfl rfl rfl); (case hw => rfl); (case hz => kernel_rfl); (case hx => rfl); intro bx w1 HB_; simp only [Act.put, List.setIfInBounds_toArray, List.set_cons_zero, List.set_cons_succ]; clear HA; have HA := Aside0.mk HB_; clear HB_)     | ((with_reducible apply store_); (case HH => first | exact HA.out | exact HA.out.any rfl rfl rfl rfl); (case hw => rfl); (case hx => rfl); (case hev => conv => lhs; whnf); (case hy => rfl); (case hm => repeat (first | exact Holds.At.here | apply Holds.At.there)); (case hl => rfl); (case hn => kernel_rfl); (case h1 => simp [Value.oneCell']); (case hi => simp); intro w1 HB_; simp only [splice, List.set_cons_zero, List.set_cons_succ] at HB_; clear HA; have HA := Aside0.mk HB_; clear HB_)     | (go_at_call 50; (with_reducible apply Calls.mono); (case h => exact number_at (by first | exact HA.out | exact HA.out.any rfl rfl rfl rfl) (by repeat (first | exact Holds.At.here | apply Holds.At.there)) HL.out HC.out (by first | exact pos_le _ _ _ | exact Nat.zero_le _ | omega) (by decide) (HS.out.mono (by simp)) hby.out); rintro e w1 ⟨rfl, HB_⟩; clear HA; have HA := Aside0.mk HB_; clear HB_)     | (go_at_call 52; (with_reducible apply Calls.mono); (case h => exact done_calls _ _ _ _ l0 w _ _ [] (by first | exact HA.out | exact HA.out.any rfl rfl rfl rfl) (by repeat (first | exact List.Mem.head _ | refine List.Mem.tail _ ?_))); rintro e w' ⟨rfl, ⟨nd, rfl⟩⟩)     | (go_at_call 22; (with_reducible refine (node_Right.calls _ _ _ _ _ HR.out).mono ?_); rintro e w1 ⟨rfl, hb_⟩; have HB_ := HA.out.call1 hb_ rfl rfl rfl rfl; clear hb_; clear HA; have HA := Aside0.mk HB_; clear HB_)); (apply end_list [.cell 2 32, .tmp 3]; (case hres => rfl); (case hd => rfl); (case hvs => apply vcell (by first | exact HA.out | exact HA.out.any rfl rfl rfl rfl); (case hp => rfl); (case hm => repeat (first | exact List.Mem.head _ | refine List.Mem.tail _ ?_)); (case hag => rfl); (case hi => kernel_rfl); (case hvs => apply Vals.tmp; exact .nil)); (case hl => simp); (case hR => exact ⟨rfl, HA.out.below⟩))
    · skip
      apply alloc_e (z := .agg #[.string ⟨#[]⟩, .string ⟨#[]⟩, .bool false]); (case HH => first | exact HA.out | exact HA.out.any rfl rfl rfl rfl); (case hop => rfl); (case hN => rfl); (case hw => rfl); (case hz => kernel_rfl); (case hx => rfl); intro bn w1 HB_; clear HA; have HA := Aside0.mk HB_; clear HB_
      refine hK.out _ _ (by first | exact HA.out.none | exact (HA.out.any rfl rfl rfl rfl).none) (fun hHeld => ?_)
      clear hK K
      refine norm_ (a' := ?_) ?_ ?_
      rotate_left
      · show Act.put _ (some 7) _ = _
        simp only [Act.put, List.setIfInBounds_toArray, List.set_cons_zero, List.set_cons_succ, i64_w, i32_w]
        rfl
      refine one_ (i := 6) (N := some 27) #[true, true, true, true, true, true, true, false, true, true, false, true, false] rfl rfl (by kernel_rfl) (by decide) (fun K hK => ?_)
      apply call_e Try.func51 (args := #[.pointer (some ⟨bx, 0, none⟩), .int .i64 (leVal (nxt l0 (pos l0 (pos l0 (pos l0 0 1) 1) (leVal (nxt l0 (pos l0 0 1) 1)).toNat) 2))]); (case hname => kernel_rfl); (case hb => rfl); (case hop => rfl); (case hN => rfl); (case hw => rfl); (case hargs => ((try simp only [List.map_toArray, List.map_cons, List.map_nil]); first | done | rfl)); (case hcl => exact next_at (by first | exact HA.out | exact HA.out.any rfl rfl rfl rfl) (by repeat (first | exact Holds.At.here | apply Holds.At.there)) HL.out HC.out (by exact pos_le _ _ _) HK2.out.1 HK2.out.2 HS.out); rintro e w1 ⟨A2, d2, rfl, hd2, hs2, HB_⟩; refine ⟨_, rfl, ?_⟩; (clear HA; have HA := Aside0.mk HB_; clear HB_; have HS2 := Aside0.mk hs2; clear hs2 hd2)
      refine hK.out _ _ (by first | exact HA.out.none | exact (HA.out.any rfl rfl rfl rfl).none) (fun hHeld => ?_)
      clear hK K
      refine norm_ (a' := ?_) ?_ ?_
      rotate_left
      · show Act.put _ (some 27) _ = _
        simp only [Act.put, List.setIfInBounds_toArray, List.set_cons_zero, List.set_cons_succ, i64_w, i32_w]
        rfl
      refine take_ (i := 7) (N := some 28) (v := (.string (strOfNums (nxt l0 (pos l0 (pos l0 (pos l0 (pos l0 0 1) 1) (leVal (nxt l0 (pos l0 0 1) 1)).toNat) 2) (leVal (nxt l0 (pos l0 (pos l0 (pos l0 0 1) 1) (leVal (nxt l0 (pos l0 0 1) 1)).toNat) 2)).toNat)))) (a' := ?_) #[true, true, true, true, true, true, true, true, true, true, false, true, false] rfl rfl (by kernel_rfl) (fun _ _ _ h => h) (Or.inl ⟨by rfl, ?_⟩) (by first | exact HA.out.none | exact (HA.out.any rfl rfl rfl rfl).none) ?_ ?_
      · intro w' s0
        (apply run_text; (case hop => rfl); (case hev => conv => lhs; whnf); (case hv => rfl); (case hs => exact Try.underlying34); (case hd => exact Try.underlying9); (case he => exact Try.underlying5); (case hSr => exact HS2.out); (case hl => (have := nxt_le l0 (pos l0 (pos l0 (pos l0 (pos l0 0 1) 1) (leVal (nxt l0 (pos l0 0 1) 1)).toNat) 2) (leVal (nxt l0 (pos l0 (pos l0 (pos l0 0 1) 1) (leVal (nxt l0 (pos l0 0 1) 1)).toNat) 2)).toNat; have := HK2.out; omega)); (case HH => exact s0))
      rotate_left
      · simp only [Act.put, List.setIfInBounds_toArray, List.set_cons_zero, List.set_cons_succ, i64_w, i32_w]
        rfl
      refine pure_ (i := 10) (N := some 31) (v := ?_) (a' := ?_) #[true, true, true, true, true, true, true, true, true, true, true, true, false] rfl rfl (by kernel_rfl) (fun _ _ _ h => h) (Or.inl ⟨by rfl, ?_⟩) ?_ ?_
      rotate_left
      · intro w'
        go_simp
        with_reducible rfl
      rotate_left
      · simp only [Act.put, List.setIfInBounds_toArray, List.set_cons_zero, List.set_cons_succ, i64_w, i32_w]
        rfl
      refine one_ (i := 12) (N := none) #[true, true, true, true, true, true, true, true, true, true, true, true, true] rfl rfl (by kernel_rfl) (by decide) (fun K hK => ?_)
      apply store_e; (case HH => first | exact HA.out | exact HA.out.any rfl rfl rfl rfl); (case hop => rfl); (case hN => rfl); (case hw => rfl); (case hx => rfl); (case hev => conv => lhs; whnf); (case hy => rfl); (case hm => repeat (first | exact Holds.At.here | apply Holds.At.there)); (case hl => rfl); (case hn => kernel_rfl); (case h1 => simp [Value.oneCell']); (case hi => simp); intro w1 HB_; simp only [splice, List.set_cons_zero, List.set_cons_succ] at HB_; clear HA; have HA := Aside0.mk HB_; clear HB_
      refine hK.out _ _ (by first | exact HA.out.none | exact (HA.out.any rfl rfl rfl rfl).none) (fun hHeld => ?_)
      clear hK K
      refine done_ (by kernel_rfl) ?_
      go_wp2_with (first     | ((with_reducible apply load1_); (case HH => first | exact HA.out | exact HA.out.any rfl rfl rfl rfl); (case ht => rfl); (case hx => rfl); (case hw => rfl); (case hm => repeat (first | exact List.Mem.head _ | refine List.Mem.tail _ ?_)); (case hv => exact rfl); simp only [Act.put, List.setIfInBounds_toArray, List.set_cons_zero, List.set_cons_succ])     | ((with_reducible apply loadN_ (n := 3)); (case HH => first | exact HA.out | exact HA.out.any rfl rfl rfl rfl); (case ht => rfl); (case hn => decide +kernel); (case hx => rfl); (case hw => rfl); (case hm => repeat (first | exact List.Mem.head _ | refine List.Mem.tail _ ?_)); (case hv => first | (simp only [List.drop_succ_cons, List.drop_zero, List.take_succ_cons, List.take_zero]; rfl) | rfl); (case hl => rfl); simp only [Act.put, List.setIfInBounds_toArray, List.set_cons_zero, List.set_cons_succ])     | ((with_reducible apply box_); (case HH => first | exact HA.out | exact HA.out.any rfl rfl rfl rfl); (case hw => rfl); (case hev => conv => lhs; whnf); (case hy => rfl); intro bx w1 HB_; simp only [Act.put, List.setIfInBounds_toArray, List.set_cons_zero, List.set_cons_succ]; clear HA; have HA := Aside0.mk HB_; clear HB_)     | ((with_reducible apply alloc_ (z := .agg #[.string ⟨#[]⟩, .string ⟨#[]⟩, .bool false])); (case HH => first | exact HA.out | exact HA.out.any rfl rfl rfl rfl); (case hw => rfl); (case hz => kernel_rfl); (case hx => rfl); intro bx w1 HB_; simp only [Act.put, List.setIfInBounds_toArray, List.set_cons_zero, List.set_cons_succ]; clear HA; have HA := Aside0.mk HB_; clear HB_)     | ((with_reducible apply store_); (case HH => first | exact HA.out | exact HA.out.any rfl rfl rfl rfl); (case hw => rfl); (case hx => rfl); (case hev => conv => lhs; whnf); (case hy => rfl); (case hm => repeat (first | exact Holds.At.here | apply Holds.At.there)); (case hl => rfl); (case hn => kernel_rfl); (case h1 => simp [Value.oneCell']); (case hi => simp); intro w1 HB_; simp only [splice, List.set_cons_zero, List.set_cons_succ] at HB_; clear HA; have HA := Aside0.mk HB_; clear HB_)     | (go_at_call 50; (with_reducible apply Calls.mono); (case h => exact number_at (by first | exact HA.out | exact HA.out.any rfl rfl rfl rfl) (by repeat (first | exact Holds.At.here | apply Holds.At.there)) HL.out HC.out (by first | exact pos_le _ _ _ | exact Nat.zero_le _ | omega) (by decide) (HS.out.mono (by simp)) hby.out); rintro e w1 ⟨rfl, HB_⟩; clear HA; have HA := Aside0.mk HB_; clear HB_)     | (go_at_call 52; (with_reducible apply Calls.mono); (case h => exact done_calls _ _ _ _ l0 w _ _ [] (by first | exact HA.out | exact HA.out.any rfl rfl rfl rfl) (by repeat (first | exact List.Mem.head _ | refine List.Mem.tail _ ?_))); rintro e w' ⟨rfl, ⟨nd, rfl⟩⟩)     | (go_at_call 22; (with_reducible refine (node_Right.calls _ _ _ _ _ HR.out).mono ?_); rintro e w1 ⟨rfl, hb_⟩; have HB_ := HA.out.call1 hb_ rfl rfl rfl rfl; clear hb_; clear HA; have HA := Aside0.mk HB_; clear HB_)); (apply end_list [.cell 2 32, .tmp 3]; (case hres => rfl); (case hd => rfl); (case hvs => apply vcell (by first | exact HA.out | exact HA.out.any rfl rfl rfl rfl); (case hp => rfl); (case hm => repeat (first | exact List.Mem.head _ | refine List.Mem.tail _ ?_)); (case hag => rfl); (case hi => kernel_rfl); (case hvs => apply Vals.tmp; exact .nil)); (case hl => simp); (case hR => exact ⟨rfl, HA.out.below⟩))
  · skip
    apply alloc_e (z := .agg #[.string ⟨#[]⟩, .string ⟨#[]⟩, .bool false]); (case HH => first | exact HA.out | exact HA.out.any rfl rfl rfl rfl); (case hop => rfl); (case hN => rfl); (case hw => rfl); (case hz => kernel_rfl); (case hx => rfl); intro bn w1 HB_; clear HA; have HA := Aside0.mk HB_; clear HB_
    refine hK.out _ _ (by first | exact HA.out.none | exact (HA.out.any rfl rfl rfl rfl).none) (fun hHeld => ?_)
    clear hK K
    refine norm_ (a' := ?_) ?_ ?_
    rotate_left
    · show Act.put _ (some 7) _ = _
      simp only [Act.put, List.setIfInBounds_toArray, List.set_cons_zero, List.set_cons_succ, i64_w, i32_w]
      rfl
    refine one_ (i := 5) (N := some 26) #[true, true, true, true, true, true, false, false, true, true, false, true, false] rfl rfl (by kernel_rfl) (by decide) (fun K hK => ?_)
    apply call_e Try.func50 (args := #[.pointer (some ⟨bx, 0, none⟩), .int .i64 2]); (case hname => kernel_rfl); (case hb => rfl); (case hop => rfl); (case hN => rfl); (case hw => rfl); (case hargs => ((try simp only [List.map_toArray, List.map_cons, List.map_nil]); first | done | rfl)); (case hcl => exact number_at (g := bx) (k := 2) (by first | exact HA.out | exact HA.out.any rfl rfl rfl rfl) (by repeat (first | exact Holds.At.here | apply Holds.At.there)) HL.out HC.out (by first | exact pos_le _ _ _ | exact Nat.zero_le _ | omega) (by decide) (HS.out.mono (by simp)) hby.out); rintro e w1 ⟨rfl, HB_⟩; refine ⟨_, rfl, ?_⟩; (clear HA; have HA := Aside0.mk HB_; clear HB_)
    refine hK.out _ _ (by first | exact HA.out.none | exact (HA.out.any rfl rfl rfl rfl).none) (fun hHeld => ?_)
    clear hK K
    refine norm_ (a' := ?_) ?_ ?_
    rotate_left
    · show Act.put _ (some 26) _ = _
      simp only [Act.put, List.setIfInBounds_toArray, List.set_cons_zero, List.set_cons_succ, i64_w, i32_w]
      rfl
    refine one_ (i := 6) (N := some 27) #[true, true, true, true, true, true, true, false, true, true, false, true, false] rfl rfl (by kernel_rfl) (by decide) (fun K hK => ?_)
    apply call_e Try.func51 (args := #[.pointer (some ⟨bx, 0, none⟩), .int .i64 (leVal (nxt l0 (pos l0 (pos l0 (pos l0 0 1) 1) (leVal (nxt l0 (pos l0 0 1) 1)).toNat) 2))]); (case hname => kernel_rfl); (case hb => rfl); (case hop => rfl); (case hN => rfl); (case hw => rfl); (case hargs => ((try simp only [List.map_toArray, List.map_cons, List.map_nil]); first | done | rfl)); (case hcl => exact next_at (by first | exact HA.out | exact HA.out.any rfl rfl rfl rfl) (by repeat (first | exact Holds.At.here | apply Holds.At.there)) HL.out HC.out (by exact pos_le _ _ _) HK2.out.1 HK2.out.2 HS.out); rintro e w1 ⟨A2, d2, rfl, hd2, hs2, HB_⟩; refine ⟨_, rfl, ?_⟩; (clear HA; have HA := Aside0.mk HB_; clear HB_; have HS2 := Aside0.mk hs2; clear hs2 hd2)
    refine hK.out _ _ (by first | exact HA.out.none | exact (HA.out.any rfl rfl rfl rfl).none) (fun hHeld => ?_)
    clear hK K
    refine norm_ (a' := ?_) ?_ ?_
    rotate_left
    · show Act.put _ (some 27) _ = _
      simp only [Act.put, List.setIfInBounds_toArray, List.set_cons_zero, List.set_cons_succ, i64_w, i32_w]
      rfl
    refine take_ (i := 7) (N := some 28) (v := (.string (strOfNums (nxt l0 (pos l0 (pos l0 (pos l0 (pos l0 0 1) 1) (leVal (nxt l0 (pos l0 0 1) 1)).toNat) 2) (leVal (nxt l0 (pos l0 (pos l0 (pos l0 0 1) 1) (leVal (nxt l0 (pos l0 0 1) 1)).toNat) 2)).toNat)))) (a' := ?_) #[true, true, true, true, true, true, true, true, true, true, false, true, false] rfl rfl (by kernel_rfl) (fun _ _ _ h => h) (Or.inl ⟨by rfl, ?_⟩) (by first | exact HA.out.none | exact (HA.out.any rfl rfl rfl rfl).none) ?_ ?_
    · intro w' s0
      (apply run_text; (case hop => rfl); (case hev => conv => lhs; whnf); (case hv => rfl); (case hs => exact Try.underlying34); (case hd => exact Try.underlying9); (case he => exact Try.underlying5); (case hSr => exact HS2.out); (case hl => (have := nxt_le l0 (pos l0 (pos l0 (pos l0 (pos l0 0 1) 1) (leVal (nxt l0 (pos l0 0 1) 1)).toNat) 2) (leVal (nxt l0 (pos l0 (pos l0 (pos l0 0 1) 1) (leVal (nxt l0 (pos l0 0 1) 1)).toNat) 2)).toNat; have := HK2.out; omega)); (case HH => exact s0))
    rotate_left
    · simp only [Act.put, List.setIfInBounds_toArray, List.set_cons_zero, List.set_cons_succ, i64_w, i32_w]
      rfl
    refine pure_ (i := 10) (N := some 31) (v := ?_) (a' := ?_) #[true, true, true, true, true, true, true, true, true, true, true, true, false] rfl rfl (by kernel_rfl) (fun _ _ _ h => h) (Or.inl ⟨by rfl, ?_⟩) ?_ ?_
    rotate_left
    · intro w'
      go_simp
      with_reducible rfl
    rotate_left
    · simp only [Act.put, List.setIfInBounds_toArray, List.set_cons_zero, List.set_cons_succ, i64_w, i32_w]
      rfl
    refine one_ (i := 12) (N := none) #[true, true, true, true, true, true, true, true, true, true, true, true, true] rfl rfl (by kernel_rfl) (by decide) (fun K hK => ?_)
    apply store_e; (case HH => first | exact HA.out | exact HA.out.any rfl rfl rfl rfl); (case hop => rfl); (case hN => rfl); (case hw => rfl); (case hx => rfl); (case hev => conv => lhs; whnf); (case hy => rfl); (case hm => repeat (first | exact Holds.At.here | apply Holds.At.there)); (case hl => rfl); (case hn => kernel_rfl); (case h1 => simp [Value.oneCell']); (case hi => simp); intro w1 HB_; simp only [splice, List.set_cons_zero, List.set_cons_succ] at HB_; clear HA; have HA := Aside0.mk HB_; clear HB_
    refine hK.out _ _ (by first | exact HA.out.none | exact (HA.out.any rfl rfl rfl rfl).none) (fun hHeld => ?_)
    clear hK K
    refine done_ (by kernel_rfl) ?_
    go_wp2_with (first     | ((with_reducible apply load1_); (case HH => first | exact HA.out | exact HA.out.any rfl rfl rfl rfl); (case ht => rfl); (case hx => rfl); (case hw => rfl); (case hm => repeat (first | exact List.Mem.head _ | refine List.Mem.tail _ ?_)); (case hv => exact rfl); simp only [Act.put, List.setIfInBounds_toArray, List.set_cons_zero, List.set_cons_succ])     | ((with_reducible apply loadN_ (n := 3)); (case HH => first | exact HA.out | exact HA.out.any rfl rfl rfl rfl); (case ht => rfl); (case hn => decide +kernel); (case hx => rfl); (case hw => rfl); (case hm => repeat (first | exact List.Mem.head _ | refine List.Mem.tail _ ?_)); (case hv => first | (simp only [List.drop_succ_cons, List.drop_zero, List.take_succ_cons, List.take_zero]; rfl) | rfl); (case hl => rfl); simp only [Act.put, List.setIfInBounds_toArray, List.set_cons_zero, List.set_cons_succ])     | ((with_reducible apply box_); (case HH => first | exact HA.out | exact HA.out.any rfl rfl rfl rfl); (case hw => rfl); (case hev => conv => lhs; whnf); (case hy => rfl); intro bx w1 HB_; simp only [Act.put, List.setIfInBounds_toArray, List.set_cons_zero, List.set_cons_succ]; clear HA; have HA := Aside0.mk HB_; clear HB_)     | ((with_reducible apply alloc_ (z := .agg #[.string ⟨#[]⟩, .string ⟨#[]⟩, .bool false])); (case HH => first | exact HA.out | exact HA.out.any rfl rfl rfl rfl); (case hw => rfl); (case hz => kernel_rfl); (case hx => rfl); intro bx w1 HB_; simp only [Act.put, List.setIfInBounds_toArray, List.set_cons_zero, List.set_cons_succ]; clear HA; have HA := Aside0.mk HB_; clear HB_)     | ((with_reducible apply store_); (case HH => first | exact HA.out | exact HA.out.any rfl rfl rfl rfl); (case hw => rfl); (case hx => rfl); (case hev => conv => lhs; whnf); (case hy => rfl); (case hm => repeat (first | exact Holds.At.here | apply Holds.At.there)); (case hl => rfl); (case hn => kernel_rfl); (case h1 => simp [Value.oneCell']); (case hi => simp); intro w1 HB_; simp only [splice, List.set_cons_zero, List.set_cons_succ] at HB_; clear HA; have HA := Aside0.mk HB_; clear HB_)     | (go_at_call 50; (with_reducible apply Calls.mono); (case h => exact number_at (by first | exact HA.out | exact HA.out.any rfl rfl rfl rfl) (by repeat (first | exact Holds.At.here | apply Holds.At.there)) HL.out HC.out (by first | exact pos_le _ _ _ | exact Nat.zero_le _ | omega) (by decide) (HS.out.mono (by simp)) hby.out); rintro e w1 ⟨rfl, HB_⟩; clear HA; have HA := Aside0.mk HB_; clear HB_)     | (go_at_call 52; (with_reducible apply Calls.mono); (case h => exact done_calls _ _ _ _ l0 w _ _ [] (by first | exact HA.out | exact HA.out.any rfl rfl rfl rfl) (by repeat (first | exact List.Mem.head _ | refine List.Mem.tail _ ?_))); rintro e w' ⟨rfl, ⟨nd, rfl⟩⟩)     | (go_at_call 22; (with_reducible refine (node_Right.calls _ _ _ _ _ HR.out).mono ?_); rintro e w1 ⟨rfl, hb_⟩; have HB_ := HA.out.call1 hb_ rfl rfl rfl rfl; clear hb_; clear HA; have HA := Aside0.mk HB_; clear HB_)); (apply end_list [.cell 2 32, .tmp 3]; (case hres => rfl); (case hd => rfl); (case hvs => apply vcell (by first | exact HA.out | exact HA.out.any rfl rfl rfl rfl); (case hp => rfl); (case hm => repeat (first | exact List.Mem.head _ | refine List.Mem.tail _ ?_)); (case hag => rfl); (case hi => kernel_rfl); (case hvs => apply Vals.tmp; exact .nil)); (case hl => simp); (case hR => exact ⟨rfl, HA.out.below⟩))
set_option maxHeartbeats 8000000 in
set_option maxRecDepth 100000 in
theorem unpack_r1 (A0 : Option Addr) (c0 : Nat) (l0 : List Int) (w : World) (hr0 : Kd.C (Kd.int .u8) w A0 l0.length l0) (hc0 : l0.length ≤ c0) (hl : l0.length ≤ 281474976710656) (hb : Bytes l0) (f0 : (leVal (nxt l0 0 1) == 1) = true) (f1 : (leVal (nxt l0 0 1) != 1) = false) (f2 : (leVal (nxt l0 0 1) == 2) = false) (f3 : (leVal (nxt l0 0 1) != 2) = true) (f4 : ((((pos l0 (pos l0 (pos l0 (pos l0 (pos l0 0 1) 1) (leVal (nxt l0 (pos l0 0 1) 1)).toNat) 2) (leVal (nxt l0 (pos l0 (pos l0 (pos l0 0 1) 1) (leVal (nxt l0 (pos l0 0 1) 1)).toNat) 2)).toNat) : Nat) : Int) == (l0.length : Int)) = true) (f5 : node_Right.f (strOfNums (nxt l0 (pos l0 (pos l0 0 1) 1) (leVal (nxt l0 (pos l0 0 1) 1)).toNat)) (strOfNums (nxt l0 (pos l0 (pos l0 (pos l0 (pos l0 0 1) 1) (leVal (nxt l0 (pos l0 0 1) 1)).toNat) 2) (leVal (nxt l0 (pos l0 (pos l0 (pos l0 0 1) 1) (leVal (nxt l0 (pos l0 0 1) 1)).toNat) 2)).toNat)) false = some false) :
    Calls Try.prog 26 #[.slice A0 l0.length c0] w fun e w' => e = .returned (.tuple #[.agg #[.string ⟨#[]⟩, .string ⟨#[]⟩, .bool false], .bool false]) ∧ Below w.heap.size w w' := by
  have HS : Aside0 (Src (Value.int .u8) w [] A0 l0) := Aside0.mk (Src.of_C (h1 := fun _ => rfl) hr0)
  have HL := Aside0.mk hl
  have hby := Aside0.mk hb
  have HC := Aside0.mk hc0
  have HA := Aside0.mk (Holds.start w)
  have HK1 := Aside0.mk (show (leVal (nxt l0 (pos l0 0 1) 1)).toNat ≤ 1048576 ∧ leVal (nxt l0 (pos l0 0 1) 1) = ((leVal (nxt l0 (pos l0 0 1) 1)).toNat : Int) from by have := leVal_small (hb.nxt (pos l0 0 1) 1) (nxt_le l0 _ 1); omega)
  have HK2 := Aside0.mk (show (leVal (nxt l0 (pos l0 (pos l0 (pos l0 0 1) 1) (leVal (nxt l0 (pos l0 0 1) 1)).toNat) 2)).toNat ≤ 1048576 ∧ leVal (nxt l0 (pos l0 (pos l0 (pos l0 0 1) 1) (leVal (nxt l0 (pos l0 0 1) 1)).toNat) 2) = ((leVal (nxt l0 (pos l0 (pos l0 (pos l0 0 1) 1) (leVal (nxt l0 (pos l0 0 1) 1)).toNat) 2)).toNat : Int) from by have := leVal_small2 (hb.nxt (pos l0 (pos l0 (pos l0 0 1) 1) (leVal (nxt l0 (pos l0 0 1) 1)).toNat) 2) (nxt_le l0 _ 2); omega)
  clear hr0 hl hb hc0
  have HR := Aside0.mk f5
  clear f5
  go_enter Try.func26, Try.ntmps26
  go_wp2_with (first
    | ((with_reducible apply load1_); (case HH => first | exact HA.out | exact HA.out.any rfl rfl rfl rfl); (case ht => rfl); (case hx => rfl); (case hw => rfl); (case hm => repeat (first | exact List.Mem.head _ | refine List.Mem.tail _ ?_)); (case hv => exact rfl); simp only [Act.put, List.setIfInBounds_toArray, List.set_cons_zero, List.set_cons_succ])
    | ((with_reducible apply loadN_ (n := 3)); (case HH => first | exact HA.out | exact HA.out.any rfl rfl rfl rfl); (case ht => rfl); (case hn => decide +kernel); (case hx => rfl); (case hw => rfl); (case hm => repeat (first | exact List.Mem.head _ | refine List.Mem.tail _ ?_)); (case hv => first | (simp only [List.drop_succ_cons, List.drop_zero, List.take_succ_cons, List.take_zero]; rfl) | rfl); (case hl => rfl); simp only [Act.put, List.setIfInBounds_toArray, List.set_cons_zero, List.set_cons_succ])
    | ((with_reducible apply box_); (case HH => first | exact HA.out | exact HA.out.any rfl rfl rfl rfl); (case hw => rfl); (case hev => conv => lhs; whnf); (case hy => rfl); intro bx w1 HB_; simp only [Act.put, List.setIfInBounds_toArray, List.set_cons_zero, List.set_cons_succ]; clear HA; have HA := Aside0.mk HB_; clear HB_)
    | ((with_reducible apply alloc_ (z := .agg #[.string ⟨#[]⟩, .string ⟨#[]⟩, .bool false])); (case HH => first | exact HA.out | exact HA.out.any rfl rfl rfl rfl); (case hw => rfl); (case hz => kernel_rfl); (case hx => rfl); intro bx w1 HB_; simp only [Act.put, List.setIfInBounds_toArray, List.set_cons_zero, List.set_cons_succ]; clear HA; have HA := Aside0.mk HB_; clear HB_)
    | ((with_reducible apply store_); (case HH => first | exact HA.out | exact HA.out.any rfl rfl rfl rfl); (case hw => rfl); (case hx => rfl); (case hev => conv => lhs; whnf); (case hy => rfl); (case hm => repeat (first | exact Holds.At.here | apply Holds.At.there)); (case hl => rfl); (case hn => kernel_rfl); (case h1 => simp [Value.oneCell']); (case hi => simp); intro w1 HB_; simp only [splice, List.set_cons_zero, List.set_cons_succ] at HB_; clear HA; have HA := Aside0.mk HB_; clear HB_)
    | (go_at_call 50; (with_reducible apply Calls.mono); (case h => exact number_at (by first | exact HA.out | exact HA.out.any rfl rfl rfl rfl) (by repeat (first | exact Holds.At.here | apply Holds.At.there)) HL.out HC.out (by first | exact pos_le _ _ _ | exact Nat.zero_le _ | omega) (by decide) (HS.out.mono (by simp)) hby.out); rintro e w1 ⟨rfl, HB_⟩; clear HA; have HA := Aside0.mk HB_; clear HB_)
    | (go_at_call 52; (with_reducible apply Calls.mono); (case h => exact done_calls _ _ _ _ l0 w _ _ [] (by first | exact HA.out | exact HA.out.any rfl rfl rfl rfl) (by repeat (first | exact List.Mem.head _ | refine List.Mem.tail _ ?_))); rintro e w' ⟨rfl, ⟨nd, rfl⟩⟩)
    | (go_at_call 22; (with_reducible refine (node_Right.calls _ _ _ _ _ HR.out).mono ?_); rintro e w1 ⟨rfl, hb_⟩; have HB_ := HA.out.call1 hb_ rfl rfl rfl rfl; clear hb_; clear HA; have HA := Aside0.mk HB_; clear HB_))
  refine start_H (by first | exact HA.out.none | exact (HA.out.any rfl rfl rfl rfl).none) (n := 8) [] #[false, false, false, false, false, false, false, false] (by kernel_rfl) rfl rfl ?_
  refine pure_ (i := 0) (N := some 14) (v := ?_) (a' := ?_) #[true, false, false, false, false, false, false, false] rfl rfl (by kernel_rfl) (fun _ _ _ h => h) (Or.inl ⟨by rfl, ?_⟩) ?_ ?_
  rotate_left
  · intro w'
    go_simp
    with_reducible rfl
  rotate_left
  · simp only [Act.put, List.setIfInBounds_toArray, List.set_cons_zero, List.set_cons_succ, i64_w, i32_w]
    rfl
  refine pure_ (i := 1) (N := some 15) (v := ?_) (a' := ?_) #[true, true, false, false, false, false, false, false] rfl rfl (by kernel_rfl) (fun _ _ _ h => h) (Or.inl ⟨by rfl, ?_⟩) ?_ ?_
  rotate_left
  · intro w'
    go_simp
    with_reducible rfl
  rotate_left
  · simp only [Act.put, List.setIfInBounds_toArray, List.set_cons_zero, List.set_cons_succ, i64_w, i32_w]
    rfl
  refine pure_ (i := 2) (N := some 16) (v := ?_) (a' := ?_) #[true, true, true, false, false, false, false, false] rfl rfl (by kernel_rfl) (fun _ _ _ h => h) (Or.inl ⟨by rfl, ?_⟩) ?_ ?_
  rotate_left
  · intro w'
    go_simp
    with_reducible rfl
  rotate_left
  · simp only [Act.put, List.setIfInBounds_toArray, List.set_cons_zero, List.set_cons_succ, i64_w, i32_w]
    rfl
  refine pure_ (i := 3) (N := some 17) (v := ?_) (a' := ?_) #[true, true, true, true, false, false, false, false] rfl rfl (by kernel_rfl) (fun _ _ _ h => h) (Or.inl ⟨by rfl, ?_⟩) ?_ ?_
  rotate_left
  · intro w'
    go_simp
    with_reducible rfl
  rotate_left
  · simp only [Act.put, List.setIfInBounds_toArray, List.set_cons_zero, List.set_cons_succ, i64_w, i32_w]
    rfl
  refine one_ (i := 4) (N := some 18) #[true, true, true, true, true, false, false, false] rfl rfl (by kernel_rfl) (by decide) (fun K hK => ?_)
  apply call_e Try.func50 (args := #[.pointer (some ⟨bx, 0, none⟩), .int .i64 1]); (case hname => kernel_rfl); (case hb => rfl); (case hop => rfl); (case hN => rfl); (case hw => rfl); (case hargs => ((try simp only [List.map_toArray, List.map_cons, List.map_nil]); first | done | rfl)); (case hcl => exact number_at (g := bx) (k := 1) (by first | exact HA.out | exact HA.out.any rfl rfl rfl rfl) (by repeat (first | exact Holds.At.here | apply Holds.At.there)) HL.out HC.out (by first | exact pos_le _ _ _ | exact Nat.zero_le _ | omega) (by decide) (HS.out.mono (by simp)) hby.out); rintro e w1 ⟨rfl, HB_⟩; refine ⟨_, rfl, ?_⟩; (clear HA; have HA := Aside0.mk HB_; clear HB_)
  refine hK.out _ _ (by first | exact HA.out.none | exact (HA.out.any rfl rfl rfl rfl).none) (fun hHeld => ?_)
  clear hK K
  refine norm_ (a' := ?_) ?_ ?_
  rotate_left
  · show Act.put _ (some 18) _ = _
    simp only [Act.put, List.setIfInBounds_toArray, List.set_cons_zero, List.set_cons_succ, i64_w, i32_w]
    rfl
  refine one_ (i := 5) (N := some 19) #[true, true, true, true, true, true, false, false] rfl rfl (by kernel_rfl) (by decide) (fun K hK => ?_)
  apply call_e Try.func51 (args := #[.pointer (some ⟨bx, 0, none⟩), .int .i64 (leVal (nxt l0 (pos l0 0 1) 1))]); (case hname => kernel_rfl); (case hb => rfl); (case hop => rfl); (case hN => rfl); (case hw => rfl); (case hargs => ((try simp only [List.map_toArray, List.map_cons, List.map_nil]); first | done | rfl)); (case hcl => exact next_at (by first | exact HA.out | exact HA.out.any rfl rfl rfl rfl) (by repeat (first | exact Holds.At.here | apply Holds.At.there)) HL.out HC.out (by exact pos_le _ _ _) HK1.out.1 HK1.out.2 HS.out); rintro e w1 ⟨A1, d1, rfl, hd1, hs1, HB_⟩; refine ⟨_, rfl, ?_⟩; (clear HA; have HA := Aside0.mk HB_; clear HB_; have HS1 := Aside0.mk hs1; clear hs1 hd1)
  refine hK.out _ _ (by first | exact HA.out.none | exact (HA.out.any rfl rfl rfl rfl).none) (fun hHeld => ?_)
  clear hK K
  refine norm_ (a' := ?_) ?_ ?_
  rotate_left
  · show Act.put _ (some 19) _ = _
    simp only [Act.put, List.setIfInBounds_toArray, List.set_cons_zero, List.set_cons_succ, i64_w, i32_w]
    rfl
  refine take_ (i := 6) (N := some 20) (v := (.string (strOfNums (nxt l0 (pos l0 (pos l0 0 1) 1) (leVal (nxt l0 (pos l0 0 1) 1)).toNat)))) (a' := ?_) #[true, true, true, true, true, true, true, false] rfl rfl (by kernel_rfl) (fun _ _ _ h => h) (Or.inl ⟨by rfl, ?_⟩) (by first | exact HA.out.none | exact (HA.out.any rfl rfl rfl rfl).none) ?_ ?_
  · intro w' s0
    (apply run_text; (case hop => rfl); (case hev => conv => lhs; whnf); (case hv => rfl); (case hs => exact Try.underlying34); (case hd => exact Try.underlying9); (case he => exact Try.underlying5); (case hSr => exact HS1.out); (case hl => (have := nxt_le l0 (pos l0 (pos l0 0 1) 1) (leVal (nxt l0 (pos l0 0 1) 1)).toNat; have := HK1.out; omega)); (case HH => exact s0))
  rotate_left
  · simp only [Act.put, List.setIfInBounds_toArray, List.set_cons_zero, List.set_cons_succ, i64_w, i32_w]
    rfl
  refine pure_ (i := 7) (N := some 6) (v := ?_) (a' := ?_) #[true, true, true, true, true, true, true, true] rfl rfl (by kernel_rfl) (fun _ _ _ h => h) (Or.inl ⟨by rfl, ?_⟩) ?_ ?_
  rotate_left
  · intro w'
    go_simp
    with_reducible rfl
  rotate_left
  · simp only [Act.put, List.setIfInBounds_toArray, List.set_cons_zero, List.set_cons_succ, i64_w, i32_w]
    rfl
  refine done_ (by kernel_rfl) ?_
  go_wp2
  refine start_H (by first | exact HA.out.none | exact (HA.out.any rfl rfl rfl rfl).none) (n := 13) [] #[false, false, false, false, false, false, false, false, false, false, false, false, false] (by kernel_rfl) rfl rfl ?_
  refine pure_ (i := 0) (N := some 21) (v := ?_) (a' := ?_) #[true, false, false, false, false, false, false, false, false, false, false, false, false] rfl rfl (by kernel_rfl) (fun _ _ _ h => h) (Or.inl ⟨by rfl, ?_⟩) ?_ ?_
  rotate_left
  · intro w'
    go_simp
    with_reducible rfl
  rotate_left
  · simp only [Act.put, List.setIfInBounds_toArray, List.set_cons_zero, List.set_cons_succ, i64_w, i32_w]
    rfl
  refine pure_ (i := 1) (N := some 22) (v := ?_) (a' := ?_) #[true, true, false, false, false, false, false, false, false, false, false, false, false] rfl rfl (by kernel_rfl) (fun _ _ _ h => h) (Or.inl ⟨by rfl, ?_⟩) ?_ ?_
  rotate_left
  · intro w'
    go_simp
    with_reducible rfl
  rotate_left
  · simp only [Act.put, List.setIfInBounds_toArray, List.set_cons_zero, List.set_cons_succ, i64_w, i32_w]
    rfl
  refine pure_ (i := 2) (N := some 23) (v := ?_) (a' := ?_) #[true, true, true, false, false, false, false, false, false, false, false, false, false] rfl rfl (by kernel_rfl) (fun _ _ _ h => h) (Or.inl ⟨by rfl, ?_⟩) ?_ ?_
  rotate_left
  · intro w'
    go_simp
    with_reducible rfl
  rotate_left
  · simp only [Act.put, List.setIfInBounds_toArray, List.set_cons_zero, List.set_cons_succ, i64_w, i32_w]
    rfl
  refine pure_ (i := 3) (N := some 24) (v := ?_) (a' := ?_) #[true, true, true, true, false, false, false, false, false, false, false, false, false] rfl rfl (by kernel_rfl) (fun _ _ _ h => h) (Or.inl ⟨by rfl, ?_⟩) ?_ ?_
  rotate_left
  · intro w'
    go_simp
    with_reducible rfl
  rotate_left
  · simp only [Act.put, List.setIfInBounds_toArray, List.set_cons_zero, List.set_cons_succ, i64_w, i32_w]
    rfl
  refine pure_ (i := 4) (N := some 25) (v := ?_) (a' := ?_) #[true, true, true, true, true, false, false, false, false, false, false, false, false] rfl rfl (by kernel_rfl) (fun _ _ _ h => h) (Or.inl ⟨by rfl, ?_⟩) ?_ ?_
  rotate_left
  · intro w'
    go_simp
    with_reducible rfl
  rotate_left
  · simp only [Act.put, List.setIfInBounds_toArray, List.set_cons_zero, List.set_cons_succ, i64_w, i32_w]
    rfl
  refine pure_ (i := 8) (N := some 29) (v := ?_) (a' := ?_) #[true, true, true, true, true, false, false, false, true, false, false, false, false] rfl rfl (by kernel_rfl) (fun _ _ _ h => h) (Or.inl ⟨by rfl, ?_⟩) ?_ ?_
  rotate_left
  · intro w'
    go_simp
    with_reducible rfl
  rotate_left
  · simp only [Act.put, List.setIfInBounds_toArray, List.set_cons_zero, List.set_cons_succ, i64_w, i32_w]
    rfl
  refine pure_ (i := 9) (N := some 30) (v := ?_) (a' := ?_) #[true, true, true, true, true, false, false, false, true, true, false, false, false] rfl rfl (by kernel_rfl) (fun _ _ _ h => h) (Or.inl ⟨by rfl, ?_⟩) ?_ ?_
  rotate_left
  · intro w'
    go_simp
    with_reducible rfl
  rotate_left
  · simp only [Act.put, List.setIfInBounds_toArray, List.set_cons_zero, List.set_cons_succ, i64_w, i32_w]
    rfl
  refine two_ (i := 5) (j := 11) (Ni := some 26) (Nj := some 7) #[true, true, true, true, true, true, false, false, true, true, false, false, false] #[true, true, true, true, true, false, false, false, true, true, false, true, false] rfl rfl rfl rfl (by kernel_rfl) (by decide) (by decide) (fun K hK => ?_) (fun K hK => ?_)
  · skip
    apply call_e Try.func50 (args := #[.pointer (some ⟨bx, 0, none⟩), .int .i64 2]); (case hname => kernel_rfl); (case hb => rfl); (case hop => rfl); (case hN => rfl); (case hw => rfl); (case hargs => ((try simp only [List.map_toArray, List.map_cons, List.map_nil]); first | done | rfl)); (case hcl => exact number_at (g := bx) (k := 2) (by first | exact HA.out | exact HA.out.any rfl rfl rfl rfl) (by repeat (first | exact Holds.At.here | apply Holds.At.there)) HL.out HC.out (by first | exact pos_le _ _ _ | exact Nat.zero_le _ | omega) (by decide) (HS.out.mono (by simp)) hby.out); rintro e w1 ⟨rfl, HB_⟩; refine ⟨_, rfl, ?_⟩; (clear HA; have HA := Aside0.mk HB_; clear HB_)
    refine hK.out _ _ (by first | exact HA.out.none | exact (HA.out.any rfl rfl rfl rfl).none) (fun hHeld => ?_)
    clear hK K
    refine norm_ (a' := ?_) ?_ ?_
    rotate_left
    · show Act.put _ (some 26) _ = _
      simp only [Act.put, List.setIfInBounds_toArray, List.set_cons_zero, List.set_cons_succ, i64_w, i32_w]
      rfl
    refine two_ (i := 6) (j := 11) (Ni := some 27) (Nj := some 7) #[true, true, true, true, true, true, true, false, true, true, false, false, false] #[true, true, true, true, true, true, false, false, true, true, false, true, false] rfl rfl rfl rfl (by kernel_rfl) (by decide) (by decide) (fun K hK => ?_) (fun K hK => ?_)
    · skip
      apply call_e Try.func51 (args := #[.pointer (some ⟨bx, 0, none⟩), .int .i64 (leVal (nxt l0 (pos l0 (pos l0 (pos l0 0 1) 1) (leVal (nxt l0 (pos l0 0 1) 1)).toNat) 2))]); (case hname => kernel_rfl); (case hb => rfl); (case hop => rfl); (case hN => rfl); (case hw => rfl); (case hargs => ((try simp only [List.map_toArray, List.map_cons, List.map_nil]); first | done | rfl)); (case hcl => exact next_at (by first | exact HA.out | exact HA.out.any rfl rfl rfl rfl) (by repeat (first | exact Holds.At.here | apply Holds.At.there)) HL.out HC.out (by exact pos_le _ _ _) HK2.out.1 HK2.out.2 HS.out); rintro e w1 ⟨A2, d2, rfl, hd2, hs2, HB_⟩; refine ⟨_, rfl, ?_⟩; (clear HA; have HA := Aside0.mk HB_; clear HB_; have HS2 := Aside0.mk hs2; clear hs2 hd2)
      refine hK.out _ _ (by first | exact HA.out.none | exact (HA.out.any rfl rfl rfl rfl).none) (fun hHeld => ?_)
      clear hK K
      refine norm_ (a' := ?_) ?_ ?_
      rotate_left
      · show Act.put _ (some 27) _ = _
        simp only [Act.put, List.setIfInBounds_toArray, List.set_cons_zero, List.set_cons_succ, i64_w, i32_w]
        rfl
      refine take_ (i := 7) (N := some 28) (v := (.string (strOfNums (nxt l0 (pos l0 (pos l0 (pos l0 (pos l0 0 1) 1) (leVal (nxt l0 (pos l0 0 1) 1)).toNat) 2) (leVal (nxt l0 (pos l0 (pos l0 (pos l0 0 1) 1) (leVal (nxt l0 (pos l0 0 1) 1)).toNat) 2)).toNat)))) (a' := ?_) #[true, true, true, true, true, true, true, true, true, true, false, false, false] rfl rfl (by kernel_rfl) (fun _ _ _ h => h) (Or.inl ⟨by rfl, ?_⟩) (by first | exact HA.out.none | exact (HA.out.any rfl rfl rfl rfl).none) ?_ ?_
      · intro w' s0
        (apply run_text; (case hop => rfl); (case hev => conv => lhs; whnf); (case hv => rfl); (case hs => exact Try.underlying34); (case hd => exact Try.underlying9); (case he => exact Try.underlying5); (case hSr => exact HS2.out); (case hl => (have := nxt_le l0 (pos l0 (pos l0 (pos l0 (pos l0 0 1) 1) (leVal (nxt l0 (pos l0 0 1) 1)).toNat) 2) (leVal (nxt l0 (pos l0 (pos l0 (pos l0 0 1) 1) (leVal (nxt l0 (pos l0 0 1) 1)).toNat) 2)).toNat; have := HK2.out; omega)); (case HH => exact s0))
      rotate_left
      · simp only [Act.put, List.setIfInBounds_toArray, List.set_cons_zero, List.set_cons_succ, i64_w, i32_w]
        rfl
      refine pure_ (i := 10) (N := some 31) (v := ?_) (a' := ?_) #[true, true, true, true, true, true, true, true, true, true, true, false, false] rfl rfl (by kernel_rfl) (fun _ _ _ h => h) (Or.inl ⟨by rfl, ?_⟩) ?_ ?_
      rotate_left
      · intro w'
        go_simp
        with_reducible rfl
      rotate_left
      · simp only [Act.put, List.setIfInBounds_toArray, List.set_cons_zero, List.set_cons_succ, i64_w, i32_w]
        rfl
      refine one_ (i := 11) (N := some 7) #[true, true, true, true, true, true, true, true, true, true, true, true, false] rfl rfl (by kernel_rfl) (by decide) (fun K hK => ?_)
      apply alloc_e (z := .agg #[.string ⟨#[]⟩, .string ⟨#[]⟩, .bool false]); (case HH => first | exact HA.out | exact HA.out.any rfl rfl rfl rfl); (case hop => rfl); (case hN => rfl); (case hw => rfl); (case hz => kernel_rfl); (case hx => rfl); intro bn w1 HB_; clear HA; have HA := Aside0.mk HB_; clear HB_
      refine hK.out _ _ (by first | exact HA.out.none | exact (HA.out.any rfl rfl rfl rfl).none) (fun hHeld => ?_)
      clear hK K
      refine norm_ (a' := ?_) ?_ ?_
      rotate_left
      · show Act.put _ (some 7) _ = _
        simp only [Act.put, List.setIfInBounds_toArray, List.set_cons_zero, List.set_cons_succ, i64_w, i32_w]
        rfl
      refine one_ (i := 12) (N := none) #[true, true, true, true, true, true, true, true, true, true, true, true, true] rfl rfl (by kernel_rfl) (by decide) (fun K hK => ?_)
      apply store_e; (case HH => first | exact HA.out | exact HA.out.any rfl rfl rfl rfl); (case hop => rfl); (case hN => rfl); (case hw => rfl); (case hx => rfl); (case hev => conv => lhs; whnf); (case hy => rfl); (case hm => repeat (first | exact Holds.At.here | apply Holds.At.there)); (case hl => rfl); (case hn => kernel_rfl); (case h1 => simp [Value.oneCell']); (case hi => simp); intro w1 HB_; simp only [splice, List.set_cons_zero, List.set_cons_succ] at HB_; clear HA; have HA := Aside0.mk HB_; clear HB_
      refine hK.out _ _ (by first | exact HA.out.none | exact (HA.out.any rfl rfl rfl rfl).none) (fun hHeld => ?_)
      clear hK K
      refine done_ (by kernel_rfl) ?_
      go_wp2_with (first     | ((with_reducible apply load1_); (case HH => first | exact HA.out | exact HA.out.any rfl rfl rfl rfl); (case ht => rfl); (case hx => rfl); (case hw => rfl); (case hm => repeat (first | exact List.Mem.head _ | refine List.Mem.tail _ ?_)); (case hv => exact rfl); simp only [Act.put, List.setIfInBounds_toArray, List.set_cons_zero, List.set_cons_succ])     | ((with_reducible apply loadN_ (n := 3)); (case HH => first | exact HA.out | exact HA.out.any rfl rfl rfl rfl); (case ht => rfl); (case hn => decide +kernel); (case hx => rfl); (case hw => rfl); (case hm => repeat (first | exact List.Mem.head _ | refine List.Mem.tail _ ?_)); (case hv => first | (simp only [List.drop_succ_cons, List.drop_zero, List.take_succ_cons, List.take_zero]; rfl) | rfl); (case hl => rfl); simp only [Act.put, List.setIfInBounds_toArray, List.set_cons_zero, List.set_cons_succ])     | ((with_reducible apply box_); (case HH => first | exact HA.out | exact HA.out.any rfl rfl rfl rfl); (case hw => rfl); (case hev => conv => lhs; whnf); (case hy => rfl); intro bx w1 HB_; simp only [Act.put, List.setIfInBounds_toArray, List.set_cons_zero, List.set_cons_succ]; clear HA; have HA := Aside0.mk HB_; clear HB_)     | ((with_reducible apply alloc_ (z := .agg #[.string ⟨#[]⟩, .string ⟨#[]⟩, .bool false])); (case HH => first | exact HA.out | exact HA.out.any rfl rfl rfl rfl); (case hw => rfl); (case hz => kernel_rfl); (case hx => rfl); intro bx w1 HB_; simp only [Act.put, List.setIfInBounds_toArray, List.set_cons_zero, List.set_cons_succ]; clear HA; have HA := Aside0.mk HB_; clear HB_)     | ((with_reducible apply store_); (case HH => first | exact HA.out | exact HA.out.any rfl rfl rfl rfl); (case hw => rfl); (case hx => rfl); (case hev => conv => lhs; whnf); (case hy => rfl); (case hm => repeat (first | exact Holds.At.here | apply Holds.At.there)); (case hl => rfl); (case hn => kernel_rfl); (case h1 => simp [Value.oneCell']); (case hi => simp); intro w1 HB_; simp only [splice, List.set_cons_zero, List.set_cons_succ] at HB_; clear HA; have HA := Aside0.mk HB_; clear HB_)     | (go_at_call 50; (with_reducible apply Calls.mono); (case h => exact number_at (by first | exact HA.out | exact HA.out.any rfl rfl rfl rfl) (by repeat (first | exact Holds.At.here | apply Holds.At.there)) HL.out HC.out (by first | exact pos_le _ _ _ | exact Nat.zero_le _ | omega) (by decide) (HS.out.mono (by simp)) hby.out); rintro e w1 ⟨rfl, HB_⟩; clear HA; have HA := Aside0.mk HB_; clear HB_)     | (go_at_call 52; (with_reducible apply Calls.mono); (case h => exact done_calls _ _ _ _ l0 w _ _ [] (by first | exact HA.out | exact HA.out.any rfl rfl rfl rfl) (by repeat (first | exact List.Mem.head _ | refine List.Mem.tail _ ?_))); rintro e w' ⟨rfl, ⟨nd, rfl⟩⟩)     | (go_at_call 22; (with_reducible refine (node_Right.calls _ _ _ _ _ HR.out).mono ?_); rintro e w1 ⟨rfl, hb_⟩; have HB_ := HA.out.call1 hb_ rfl rfl rfl rfl; clear hb_; clear HA; have HA := Aside0.mk HB_; clear HB_)); (apply end_list [.cell 2 32, .tmp 3]; (case hres => rfl); (case hd => rfl); (case hvs => apply vcell (by first | exact HA.out | exact HA.out.any rfl rfl rfl rfl); (case hp => rfl); (case hm => repeat (first | exact List.Mem.head _ | refine List.Mem.tail _ ?_)); (case hag => rfl); (case hi => kernel_rfl); (case hvs => apply Vals.tmp; exact .nil)); (case hl => simp); (case hR => exact ⟨rfl, HA.out.below⟩))
    · skip
      apply alloc_e (z := .agg #[.string ⟨#[]⟩, .string ⟨#[]⟩, .bool false]); (case HH => first | exact HA.out | exact HA.out.any rfl rfl rfl rfl); (case hop => rfl); (case hN => rfl); (case hw => rfl); (case hz => kernel_rfl); (case hx => rfl); intro bn w1 HB_; clear HA; have HA := Aside0.mk HB_; clear HB_
      refine hK.out _ _ (by first | exact HA.out.none | exact (HA.out.any rfl rfl rfl rfl).none) (fun hHeld => ?_)
      clear hK K
      refine norm_ (a' := ?_) ?_ ?_
      rotate_left
      · show Act.put _ (some 7) _ = _
        simp only [Act.put, List.setIfInBounds_toArray, List.set_cons_zero, List.set_cons_succ, i64_w, i32_w]
        rfl
      refine one_ (i := 6) (N := some 27) #[true, true, true, true, true, true, true, false, true, true, false, true, false] rfl rfl (by kernel_rfl) (by decide) (fun K hK => ?_)
      apply call_e Try.func51 (args := #[.pointer (some ⟨bx, 0, none⟩), .int .i64 (leVal (nxt l0 (pos l0 (pos l0 (pos l0 0 1) 1) (leVal (nxt l0 (pos l0 0 1) 1)).toNat) 2))]); (case hname => kernel_rfl); (case hb => rfl); (case hop => rfl); (case hN => rfl); (case hw => rfl); (case hargs => ((try simp only [List.map_toArray, List.map_cons, List.map_nil]); first | done | rfl)); (case hcl => exact next_at (by first | exact HA.out | exact HA.out.any rfl rfl rfl rfl) (by repeat (first | exact Holds.At.here | apply Holds.At.there)) HL.out HC.out (by exact pos_le _ _ _) HK2.out.1 HK2.out.2 HS.out); rintro e w1 ⟨A2, d2, rfl, hd2, hs2, HB_⟩; refine ⟨_, rfl, ?_⟩; (clear HA; have HA := Aside0.mk HB_; clear HB_; have HS2 := Aside0.mk hs2; clear hs2 hd2)
      refine hK.out _ _ (by first | exact HA.out.none | exact (HA.out.any rfl rfl rfl rfl).none) (fun hHeld => ?_)
      clear hK K
      refine norm_ (a' := ?_) ?_ ?_
      rotate_left
      · show Act.put _ (some 27) _ = _
        simp only [Act.put, List.setIfInBounds_toArray, List.set_cons_zero, List.set_cons_succ, i64_w, i32_w]
        rfl
      refine take_ (i := 7) (N := some 28) (v := (.string (strOfNums (nxt l0 (pos l0 (pos l0 (pos l0 (pos l0 0 1) 1) (leVal (nxt l0 (pos l0 0 1) 1)).toNat) 2) (leVal (nxt l0 (pos l0 (pos l0 (pos l0 0 1) 1) (leVal (nxt l0 (pos l0 0 1) 1)).toNat) 2)).toNat)))) (a' := ?_) #[true, true, true, true, true, true, true, true, true, true, false, true, false] rfl rfl (by kernel_rfl) (fun _ _ _ h => h) (Or.inl ⟨by rfl, ?_⟩) (by first | exact HA.out.none | exact (HA.out.any rfl rfl rfl rfl).none) ?_ ?_
      · intro w' s0
        (apply run_text; (case hop => rfl); (case hev => conv => lhs; whnf); (case hv => rfl); (case hs => exact Try.underlying34); (case hd => exact Try.underlying9); (case he => exact Try.underlying5); (case hSr => exact HS2.out); (case hl => (have := nxt_le l0 (pos l0 (pos l0 (pos l0 (pos l0 0 1) 1) (leVal (nxt l0 (pos l0 0 1) 1)).toNat) 2) (leVal (nxt l0 (pos l0 (pos l0 (pos l0 0 1) 1) (leVal (nxt l0 (pos l0 0 1) 1)).toNat) 2)).toNat; have := HK2.out; omega)); (case HH => exact s0))
      rotate_left
      · simp only [Act.put, List.setIfInBounds_toArray, List.set_cons_zero, List.set_cons_succ, i64_w, i32_w]
        rfl
      refine pure_ (i := 10) (N := some 31) (v := ?_) (a' := ?_) #[true, true, true, true, true, true, true, true, true, true, true, true, false] rfl rfl (by kernel_rfl) (fun _ _ _ h => h) (Or.inl ⟨by rfl, ?_⟩) ?_ ?_
      rotate_left
      · intro w'
        go_simp
        with_reducible rfl
      rotate_left
      · simp only [Act.put, List.setIfInBounds_toArray, List.set_cons_zero, List.set_cons_succ, i64_w, i32_w]
        rfl
      refine one_ (i := 12) (N := none) #[true, true, true, true, true, true, true, true, true, true, true, true, true] rfl rfl (by kernel_rfl) (by decide) (fun K hK => ?_)
      apply store_e; (case HH => first | exact HA.out | exact HA.out.any rfl rfl rfl rfl); (case hop => rfl); (case hN => rfl); (case hw => rfl); (case hx => rfl); (case hev => conv => lhs; whnf); (case hy => rfl); (case hm => repeat (first | exact Holds.At.here | apply Holds.At.there)); (case hl => rfl); (case hn => kernel_rfl); (case h1 => simp [Value.oneCell']); (case hi => simp); intro w1 HB_; simp only [splice, List.set_cons_zero, List.set_cons_succ] at HB_; clear HA; have HA := Aside0.mk HB_; clear HB_
      refine hK.out _ _ (by first | exact HA.out.none | exact (HA.out.any rfl rfl rfl rfl).none) (fun hHeld => ?_)
      clear hK K
      refine done_ (by kernel_rfl) ?_
      go_wp2_with (first     | ((with_reducible apply load1_); (case HH => first | exact HA.out | exact HA.out.any rfl rfl rfl rfl); (case ht => rfl); (case hx => rfl); (case hw => rfl); (case hm => repeat (first | exact List.Mem.head _ | refine List.Mem.tail _ ?_)); (case hv => exact rfl); simp only [Act.put, List.setIfInBounds_toArray, List.set_cons_zero, List.set_cons_succ])     | ((with_reducible apply loadN_ (n := 3)); (case HH => first | exact HA.out | exact HA.out.any rfl rfl rfl rfl); (case ht => rfl); (case hn => decide +kernel); (case hx => rfl); (case hw => rfl); (case hm => repeat (first | exact List.Mem.head _ | refine List.Mem.tail _ ?_)); (case hv => first | (simp only [List.drop_succ_cons, List.drop_zero, List.take_succ_cons, List.take_zero]; rfl) | rfl); (case hl => rfl); simp only [Act.put, List.setIfInBounds_toArray, List.set_cons_zero, List.set_cons_succ])     | ((with_reducible apply box_); (case HH => first | exact HA.out | exact HA.out.any rfl rfl rfl rfl); (case hw => rfl); (case hev => conv => lhs; whnf); (case hy => rfl); intro bx w1 HB_; simp only [Act.put, List.setIfInBounds_toArray, List.set_cons_zero, List.set_cons_succ]; clear HA; have HA := Aside0.mk HB_; clear HB_)     | ((with_reducible apply alloc_ (z := .agg #[.string ⟨#[]⟩, .string ⟨#[]⟩, .bool false])); (case HH => first | exact HA.out | exact HA.out.any rfl rfl rfl rfl); (case hw => rfl); (case hz => kernel_rfl); (case hx => rfl); intro bx w1 HB_; simp only [Act.put, List.setIfInBounds_toArray, List.set_cons_zero, List.set_cons_succ]; clear HA; have HA := Aside0.mk HB_; clear HB_)     | ((with_reducible apply store_); (case HH => first | exact HA.out | exact HA.out.any rfl rfl rfl rfl); (case hw => rfl); (case hx => rfl); (case hev => conv => lhs; whnf); (case hy => rfl); (case hm => repeat (first | exact Holds.At.here | apply Holds.At.there)); (case hl => rfl); (case hn => kernel_rfl); (case h1 => simp [Value.oneCell']); (case hi => simp); intro w1 HB_; simp only [splice, List.set_cons_zero, List.set_cons_succ] at HB_; clear HA; have HA := Aside0.mk HB_; clear HB_)     | (go_at_call 50; (with_reducible apply Calls.mono); (case h => exact number_at (by first | exact HA.out | exact HA.out.any rfl rfl rfl rfl) (by repeat (first | exact Holds.At.here | apply Holds.At.there)) HL.out HC.out (by first | exact pos_le _ _ _ | exact Nat.zero_le _ | omega) (by decide) (HS.out.mono (by simp)) hby.out); rintro e w1 ⟨rfl, HB_⟩; clear HA; have HA := Aside0.mk HB_; clear HB_)     | (go_at_call 52; (with_reducible apply Calls.mono); (case h => exact done_calls _ _ _ _ l0 w _ _ [] (by first | exact HA.out | exact HA.out.any rfl rfl rfl rfl) (by repeat (first | exact List.Mem.head _ | refine List.Mem.tail _ ?_))); rintro e w' ⟨rfl, ⟨nd, rfl⟩⟩)     | (go_at_call 22; (with_reducible refine (node_Right.calls _ _ _ _ _ HR.out).mono ?_); rintro e w1 ⟨rfl, hb_⟩; have HB_ := HA.out.call1 hb_ rfl rfl rfl rfl; clear hb_; clear HA; have HA := Aside0.mk HB_; clear HB_)); (apply end_list [.cell 2 32, .tmp 3]; (case hres => rfl); (case hd => rfl); (case hvs => apply vcell (by first | exact HA.out | exact HA.out.any rfl rfl rfl rfl); (case hp => rfl); (case hm => repeat (first | exact List.Mem.head _ | refine List.Mem.tail _ ?_)); (case hag => rfl); (case hi => kernel_rfl); (case hvs => apply Vals.tmp; exact .nil)); (case hl => simp); (case hR => exact ⟨rfl, HA.out.below⟩))
  · skip
    apply alloc_e (z := .agg #[.string ⟨#[]⟩, .string ⟨#[]⟩, .bool false]); (case HH => first | exact HA.out | exact HA.out.any rfl rfl rfl rfl); (case hop => rfl); (case hN => rfl); (case hw => rfl); (case hz => kernel_rfl); (case hx => rfl); intro bn w1 HB_; clear HA; have HA := Aside0.mk HB_; clear HB_
    refine hK.out _ _ (by first | exact HA.out.none | exact (HA.out.any rfl rfl rfl rfl).none) (fun hHeld => ?_)
    clear hK K
    refine norm_ (a' := ?_) ?_ ?_
    rotate_left
    · show Act.put _ (some 7) _ = _
      simp only [Act.put, List.setIfInBounds_toArray, List.set_cons_zero, List.set_cons_succ, i64_w, i32_w]
      rfl
    refine one_ (i := 5) (N := some 26) #[true, true, true, true, true, true, false, false, true, true, false, true, false] rfl rfl (by kernel_rfl) (by decide) (fun K hK => ?_)
    apply call_e Try.func50 (args := #[.pointer (some ⟨bx, 0, none⟩), .int .i64 2]); (case hname => kernel_rfl); (case hb => rfl); (case hop => rfl); (case hN => rfl); (case hw => rfl); (case hargs => ((try simp only [List.map_toArray, List.map_cons, List.map_nil]); first | done | rfl)); (case hcl => exact number_at (g := bx) (k := 2) (by first | exact HA.out | exact HA.out.any rfl rfl rfl rfl) (by repeat (first | exact Holds.At.here | apply Holds.At.there)) HL.out HC.out (by first | exact pos_le _ _ _ | exact Nat.zero_le _ | omega) (by decide) (HS.out.mono (by simp)) hby.out); rintro e w1 ⟨rfl, HB_⟩; refine ⟨_, rfl, ?_⟩; (clear HA; have HA := Aside0.mk HB_; clear HB_)
    refine hK.out _ _ (by first | exact HA.out.none | exact (HA.out.any rfl rfl rfl rfl).none) (fun hHeld => ?_)
    clear hK K
    refine norm_ (a' := ?_) ?_ ?_
    rotate_left
    · show Act.put _ (some 26) _ = _
      simp only [Act.put, List.setIfInBounds_toArray, List.set_cons_zero, List.set_cons_succ, i64_w, i32_w]
      rfl
    refine one_ (i := 6) (N := some 27) #[true, true, true, true, true, true, true, false, true, true, false, true, false] rfl rfl (by kernel_rfl) (by decide) (fun K hK => ?_)
    apply call_e Try.func51 (args := #[.pointer (some ⟨bx, 0, none⟩), .int .i64 (leVal (nxt l0 (pos l0 (pos l0 (pos l0 0 1) 1) (leVal (nxt l0 (pos l0 0 1) 1)).toNat) 2))]); (case hname => kernel_rfl); (case hb => rfl); (case hop => rfl); (case hN => rfl); (case hw => rfl); (case hargs => ((try simp only [List.map_toArray, List.map_cons, List.map_nil]); first | done | rfl)); (case hcl => exact next_at (by first | exact HA.out | exact HA.out.any rfl rfl rfl rfl) (by repeat (first | exact Holds.At.here | apply Holds.At.there)) HL.out HC.out (by exact pos_le _ _ _) HK2.out.1 HK2.out.2 HS.out); rintro e w1 ⟨A2, d2, rfl, hd2, hs2, HB_⟩; refine ⟨_, rfl, ?_⟩; (clear HA; have HA := Aside0.mk HB_; clear HB_; have HS2 := Aside0.mk hs2; clear hs2 hd2)
    refine hK.out _ _ (by first | exact HA.out.none | exact (HA.out.any rfl rfl rfl rfl).none) (fun hHeld => ?_)
    clear hK K
    refine norm_ (a' := ?_) ?_ ?_
    rotate_left
    · show Act.put _ (some 27) _ = _
      simp only [Act.put, List.setIfInBounds_toArray, List.set_cons_zero, List.set_cons_succ, i64_w, i32_w]
      rfl
    refine take_ (i := 7) (N := some 28) (v := (.string (strOfNums (nxt l0 (pos l0 (pos l0 (pos l0 (pos l0 0 1) 1) (leVal (nxt l0 (pos l0 0 1) 1)).toNat) 2) (leVal (nxt l0 (pos l0 (pos l0 (pos l0 0 1) 1) (leVal (nxt l0 (pos l0 0 1) 1)).toNat) 2)).toNat)))) (a' := ?_) #[true, true, true, true, true, true, true, true, true, true, false, true, false] rfl rfl (by kernel_rfl) (fun _ _ _ h => h) (Or.inl ⟨by rfl, ?_⟩) (by first | exact HA.out.none | exact (HA.out.any rfl rfl rfl rfl).none) ?_ ?_
    · intro w' s0
      (apply run_text; (case hop => rfl); (case hev => conv => lhs; whnf); (case hv => rfl); (case hs => exact Try.underlying34); (case hd => exact Try.underlying9); (case he => exact Try.underlying5); (case hSr => exact HS2.out); (case hl => (have := nxt_le l0 (pos l0 (pos l0 (pos l0 (pos l0 0 1) 1) (leVal (nxt l0 (pos l0 0 1) 1)).toNat) 2) (leVal (nxt l0 (pos l0 (pos l0 (pos l0 0 1) 1) (leVal (nxt l0 (pos l0 0 1) 1)).toNat) 2)).toNat; have := HK2.out; omega)); (case HH => exact s0))
    rotate_left
    · simp only [Act.put, List.setIfInBounds_toArray, List.set_cons_zero, List.set_cons_succ, i64_w, i32_w]
      rfl
    refine pure_ (i := 10) (N := some 31) (v := ?_) (a' := ?_) #[true, true, true, true, true, true, true, true, true, true, true, true, false] rfl rfl (by kernel_rfl) (fun _ _ _ h => h) (Or.inl ⟨by rfl, ?_⟩) ?_ ?_
    rotate_left
    · intro w'
      go_simp
      with_reducible rfl
    rotate_left
    · simp only [Act.put, List.setIfInBounds_toArray, List.set_cons_zero, List.set_cons_succ, i64_w, i32_w]
      rfl
    refine one_ (i := 12) (N := none) #[true, true, true, true, true, true, true, true, true, true, true, true, true] rfl rfl (by kernel_rfl) (by decide) (fun K hK => ?_)
    apply store_e; (case HH => first | exact HA.out | exact HA.out.any rfl rfl rfl rfl); (case hop => rfl); (case hN => rfl); (case hw => rfl); (case hx => rfl); (case hev => conv => lhs; whnf); (case hy => rfl); (case hm => repeat (first | exact Holds.At.here | apply Holds.At.there)); (case hl => rfl); (case hn => kernel_rfl); (case h1 => simp [Value.oneCell']); (case hi => simp); intro w1 HB_; simp only [splice, List.set_cons_zero, List.set_cons_succ] at HB_; clear HA; have HA := Aside0.mk HB_; clear HB_
    refine hK.out _ _ (by first | exact HA.out.none | exact (HA.out.any rfl rfl rfl rfl).none) (fun hHeld => ?_)
    clear hK K
    refine done_ (by kernel_rfl) ?_
    go_wp2_with (first     | ((with_reducible apply load1_); (case HH => first | exact HA.out | exact HA.out.any rfl rfl rfl rfl); (case ht => rfl); (case hx => rfl); (case hw => rfl); (case hm => repeat (first | exact List.Mem.head _ | refine List.Mem.tail _ ?_)); (case hv => exact rfl); simp only [Act.put, List.setIfInBounds_toArray, List.set_cons_zero, List.set_cons_succ])     | ((with_reducible apply loadN_ (n := 3)); (case HH => first | exact HA.out | exact HA.out.any rfl rfl rfl rfl); (case ht => rfl); (case hn => decide +kernel); (case hx => rfl); (case hw => rfl); (case hm => repeat (first | exact List.Mem.head _ | refine List.Mem.tail _ ?_)); (case hv => first | (simp only [List.drop_succ_cons, List.drop_zero, List.take_succ_cons, List.take_zero]; rfl) | rfl); (case hl => rfl); simp only [Act.put, List.setIfInBounds_toArray, List.set_cons_zero, List.set_cons_succ])     | ((with_reducible apply box_); (case HH => first | exact HA.out | exact HA.out.any rfl rfl rfl rfl); (case hw => rfl); (case hev => conv => lhs; whnf); (case hy => rfl); intro bx w1 HB_; simp only [Act.put, List.setIfInBounds_toArray, List.set_cons_zero, List.set_cons_succ]; clear HA; have HA := Aside0.mk HB_; clear HB_)     | ((with_reducible apply alloc_ (z := .agg #[.string ⟨#[]⟩, .string ⟨#[]⟩, .bool false])); (case HH => first | exact HA.out | exact HA.out.any rfl rfl rfl rfl); (case hw => rfl); (case hz => kernel_rfl); (case hx => rfl); intro bx w1 HB_; simp only [Act.put, List.setIfInBounds_toArray, List.set_cons_zero, List.set_cons_succ]; clear HA; have HA := Aside0.mk HB_; clear HB_)     | ((with_reducible apply store_); (case HH => first | exact HA.out | exact HA.out.any rfl rfl rfl rfl); (case hw => rfl); (case hx => rfl); (case hev => conv => lhs; whnf); (case hy => rfl); (case hm => repeat (first | exact Holds.At.here | apply Holds.At.there)); (case hl => rfl); (case hn => kernel_rfl); (case h1 => simp [Value.oneCell']); (case hi => simp); intro w1 HB_; simp only [splice, List.set_cons_zero, List.set_cons_succ] at HB_; clear HA; have HA := Aside0.mk HB_; clear HB_)     | (go_at_call 50; (with_reducible apply Calls.mono); (case h => exact number_at (by first | exact HA.out | exact HA.out.any rfl rfl rfl rfl) (by repeat (first | exact Holds.At.here | apply Holds.At.there)) HL.out HC.out (by first | exact pos_le _ _ _ | exact Nat.zero_le _ | omega) (by decide) (HS.out.mono (by simp)) hby.out); rintro e w1 ⟨rfl, HB_⟩; clear HA; have HA := Aside0.mk HB_; clear HB_)     | (go_at_call 52; (with_reducible apply Calls.mono); (case h => exact done_calls _ _ _ _ l0 w _ _ [] (by first | exact HA.out | exact HA.out.any rfl rfl rfl rfl) (by repeat (first | exact List.Mem.head _ | refine List.Mem.tail _ ?_))); rintro e w' ⟨rfl, ⟨nd, rfl⟩⟩)     | (go_at_call 22; (with_reducible refine (node_Right.calls _ _ _ _ _ HR.out).mono ?_); rintro e w1 ⟨rfl, hb_⟩; have HB_ := HA.out.call1 hb_ rfl rfl rfl rfl; clear hb_; clear HA; have HA := Aside0.mk HB_; clear HB_)); (apply end_list [.cell 2 32, .tmp 3]; (case hres => rfl); (case hd => rfl); (case hvs => apply vcell (by first | exact HA.out | exact HA.out.any rfl rfl rfl rfl); (case hp => rfl); (case hm => repeat (first | exact List.Mem.head _ | refine List.Mem.tail _ ?_)); (case hag => rfl); (case hi => kernel_rfl); (case hvs => apply Vals.tmp; exact .nil)); (case hl => simp); (case hR => exact ⟨rfl, HA.out.below⟩))
set_option maxHeartbeats 8000000 in
set_option maxRecDepth 100000 in
theorem unpack_r2 (A0 : Option Addr) (c0 : Nat) (l0 : List Int) (w : World) (hr0 : Kd.C (Kd.int .u8) w A0 l0.length l0) (hc0 : l0.length ≤ c0) (hl : l0.length ≤ 281474976710656) (hb : Bytes l0) (f0 : (leVal (nxt l0 0 1) == 1) = false) (f1 : (leVal (nxt l0 0 1) != 1) = true) (f2 : (leVal (nxt l0 0 1) == 2) = true) (f3 : (leVal (nxt l0 0 1) != 2) = false) (f4 : ((((pos l0 (pos l0 (pos l0 (pos l0 (pos l0 0 1) 1) (leVal (nxt l0 (pos l0 0 1) 1)).toNat) 2) (leVal (nxt l0 (pos l0 (pos l0 (pos l0 0 1) 1) (leVal (nxt l0 (pos l0 0 1) 1)).toNat) 2)).toNat) : Nat) : Int) == (l0.length : Int)) = true) (f5 : node_Right.f (strOfNums (nxt l0 (pos l0 (pos l0 0 1) 1) (leVal (nxt l0 (pos l0 0 1) 1)).toNat)) (strOfNums (nxt l0 (pos l0 (pos l0 (pos l0 (pos l0 0 1) 1) (leVal (nxt l0 (pos l0 0 1) 1)).toNat) 2) (leVal (nxt l0 (pos l0 (pos l0 (pos l0 0 1) 1) (leVal (nxt l0 (pos l0 0 1) 1)).toNat) 2)).toNat)) true = some false) :
    Calls Try.prog 26 #[.slice A0 l0.length c0] w fun e w' => e = .returned (.tuple #[.agg #[.string ⟨#[]⟩, .string ⟨#[]⟩, .bool false], .bool false]) ∧ Below w.heap.size w w' := by
  have HS : Aside0 (Src (Value.int .u8) w [] A0 l0) := Aside0.mk (Src.of_C (h1 := fun _ => rfl) hr0)
  have HL := Aside0.mk hl
  have hby := Aside0.mk hb
  have HC := Aside0.mk hc0
  have HA := Aside0.mk (Holds.start w)
  have HK1 := Aside0.mk (show (leVal (nxt l0 (pos l0 0 1) 1)).toNat ≤ 1048576 ∧ leVal (nxt l0 (pos l0 0 1) 1) = ((leVal (nxt l0 (pos l0 0 1) 1)).toNat : Int) from by have := leVal_small (hb.nxt (pos l0 0 1) 1) (nxt_le l0 _ 1); omega)
  have HK2 := Aside0.mk (show (leVal (nxt l0 (pos l0 (pos l0 (pos l0 0 1) 1) (leVal (nxt l0 (pos l0 0 1) 1)).toNat) 2)).toNat ≤ 1048576 ∧ leVal (nxt l0 (pos l0 (pos l0 (pos l0 0 1) 1) (leVal (nxt l0 (pos l0 0 1) 1)).toNat) 2) = ((leVal (nxt l0 (pos l0 (pos l0 (pos l0 0 1) 1) (leVal (nxt l0 (pos l0 0 1) 1)).toNat) 2)).toNat : Int) from by have := leVal_small2 (hb.nxt (pos l0 (pos l0 (pos l0 0 1) 1) (leVal (nxt l0 (pos l0 0 1) 1)).toNat) 2) (nxt_le l0 _ 2); omega)
  clear hr0 hl hb hc0
  have HR := Aside0.mk f5
  clear f5
  go_enter Try.func26, Try.ntmps26
  go_wp2_with (first
    | ((with_reducible apply load1_); (case HH => first | exact HA.out | exact HA.out.any rfl rfl rfl rfl); (case ht => rfl); (case hx => rfl); (case hw => rfl); (case hm => repeat (first | exact List.Mem.head _ | refine List.Mem.tail _ ?_)); (case hv => exact rfl); simp only [Act.put, List.setIfInBounds_toArray, List.set_cons_zero, List.set_cons_succ])
    | ((with_reducible apply loadN_ (n := 3)); (case HH => first | exact HA.out | exact HA.out.any rfl rfl rfl rfl); (case ht => rfl); (case hn => decide +kernel); (case hx => rfl); (case hw => rfl); (case hm => repeat (first | exact List.Mem.head _ | refine List.Mem.tail _ ?_)); (case hv => first | (simp only [List.drop_succ_cons, List.drop_zero, List.take_succ_cons, List.take_zero]; rfl) | rfl); (case hl => rfl); simp only [Act.put, List.setIfInBounds_toArray, List.set_cons_zero, List.set_cons_succ])
    | ((with_reducible apply box_); (case HH => first | exact HA.out | exact HA.out.any rfl rfl rfl rfl); (case hw => rfl); (case hev => conv => lhs; whnf); (case hy => rfl); intro bx w1 HB_; simp only [Act.put, List.setIfInBounds_toArray, List.set_cons_zero, List.set_cons_succ]; clear HA; have HA := Aside0.mk HB_; clear HB_)
    | ((with_reducible apply alloc_ (z := .agg #[.string ⟨#[]⟩, .string ⟨#[]⟩, .bool false])); (case HH => first | exact HA.out | exact HA.out.any rfl rfl rfl rfl); (case hw => rfl); (case hz => kernel_rfl); (case hx => rfl); intro bx w1 HB_; simp only [Act.put, List.setIfInBounds_toArray, List.set_cons_zero, List.set_cons_succ]; clear HA; have HA := Aside0.mk HB_; clear HB_)
    | ((with_reducible apply store_); (case HH => first | exact HA.out | exact HA.out.any rfl rfl rfl rfl); (case hw => rfl); (case hx => rfl); (case hev => conv => lhs; whnf); (case hy => rfl); (case hm => repeat (first | exact Holds.At.here | apply Holds.At.there)); (case hl => rfl); (case hn => kernel_rfl); (case h1 => simp [Value.oneCell']); (case hi => simp); intro w1 HB_; simp only [splice, List.set_cons_zero, List.set_cons_succ] at HB_; clear HA; have HA := Aside0.mk HB_; clear HB_)
    | (go_at_call 50; (with_reducible apply Calls.mono); (case h => exact number_at (by first | exact HA.out | exact HA.out.any rfl rfl rfl rfl) (by repeat (first | exact Holds.At.here | apply Holds.At.there)) HL.out HC.out (by first | exact pos_le _ _ _ | exact Nat.zero_le _ | omega) (by decide) (HS.out.mono (by simp)) hby.out); rintro e w1 ⟨rfl, HB_⟩; clear HA; have HA := Aside0.mk HB_; clear HB_)
    | (go_at_call 52; (with_reducible apply Calls.mono); (case h => exact done_calls _ _ _ _ l0 w _ _ [] (by first | exact HA.out | exact HA.out.any rfl rfl rfl rfl) (by repeat (first | exact List.Mem.head _ | refine List.Mem.tail _ ?_))); rintro e w' ⟨rfl, ⟨nd, rfl⟩⟩)
    | (go_at_call 22; (with_reducible refine (node_Right.calls _ _ _ _ _ HR.out).mono ?_); rintro e w1 ⟨rfl, hb_⟩; have HB_ := HA.out.call1 hb_ rfl rfl rfl rfl; clear hb_; clear HA; have HA := Aside0.mk HB_; clear HB_))
  refine start_H (by first | exact HA.out.none | exact (HA.out.any rfl rfl rfl rfl).none) (n := 8) [] #[false, false, false, false, false, false, false, false] (by kernel_rfl) rfl rfl ?_
  refine pure_ (i := 0) (N := some 14) (v := ?_) (a' := ?_) #[true, false, false, false, false, false, false, false] rfl rfl (by kernel_rfl) (fun _ _ _ h => h) (Or.inl ⟨by rfl, ?_⟩) ?_ ?_
  rotate_left
  · intro w'
    go_simp
    with_reducible rfl
  rotate_left
  · simp only [Act.put, List.setIfInBounds_toArray, List.set_cons_zero, List.set_cons_succ, i64_w, i32_w]
    rfl
  refine pure_ (i := 1) (N := some 15) (v := ?_) (a' := ?_) #[true, true, false, false, false, false, false, false] rfl rfl (by kernel_rfl) (fun _ _ _ h => h) (Or.inl ⟨by rfl, ?_⟩) ?_ ?_
  rotate_left
  · intro w'
    go_simp
    with_reducible rfl
  rotate_left
  · simp only [Act.put, List.setIfInBounds_toArray, List.set_cons_zero, List.set_cons_succ, i64_w, i32_w]
    rfl
  refine pure_ (i := 2) (N := some 16) (v := ?_) (a' := ?_) #[true, true, true, false, false, false, false, false] rfl rfl (by kernel_rfl) (fun _ _ _ h => h) (Or.inl ⟨by rfl, ?_⟩) ?_ ?_
  rotate_left
  · intro w'
    go_simp
    with_reducible rfl
  rotate_left
  · simp only [Act.put, List.setIfInBounds_toArray, List.set_cons_zero, List.set_cons_succ, i64_w, i32_w]
    rfl
  refine pure_ (i := 3) (N := some 17) (v := ?_) (a' := ?_) #[true, true, true, true, false, false, false, false] rfl rfl (by kernel_rfl) (fun _ _ _ h => h) (Or.inl ⟨by rfl, ?_⟩) ?_ ?_
  rotate_left
  · intro w'
    go_simp
    with_reducible rfl
  rotate_left
  · simp only [Act.put, List.setIfInBounds_toArray, List.set_cons_zero, List.set_cons_succ, i64_w, i32_w]
    rfl
  refine one_ (i := 4) (N := some 18) #[true, true, true, true, true, false, false, false] rfl rfl (by kernel_rfl) (by decide) (fun K hK => ?_)
  apply call_e Try.func50 (args := #[.pointer (some ⟨bx, 0, none⟩), .int .i64 1]); (case hname => kernel_rfl); (case hb => rfl); (case hop => rfl); (case hN => rfl); (case hw => rfl); (case hargs => ((try simp only [List.map_toArray, List.map_cons, List.map_nil]); first | done | rfl)); (case hcl => exact number_at (g := bx) (k := 1) (by first | exact HA.out | exact HA.out.any rfl rfl rfl rfl) (by repeat (first | exact Holds.At.here | apply Holds.At.there)) HL.out HC.out (by first | exact pos_le _ _ _ | exact Nat.zero_le _ | omega) (by decide) (HS.out.mono (by simp)) hby.out); rintro e w1 ⟨rfl, HB_⟩; refine ⟨_, rfl, ?_⟩; (clear HA; have HA := Aside0.mk HB_; clear HB_)
  refine hK.out _ _ (by first | exact HA.out.none | exact (HA.out.any rfl rfl rfl rfl).none) (fun hHeld => ?_)
  clear hK K
  refine norm_ (a' := ?_) ?_ ?_
  rotate_left
  · show Act.put _ (some 18) _ = _
    simp only [Act.put, List.setIfInBounds_toArray, List.set_cons_zero, List.set_cons_succ, i64_w, i32_w]
    rfl
  refine one_ (i := 5) (N := some 19) #[true, true, true, true, true, true, false, false] rfl rfl (by kernel_rfl) (by decide) (fun K hK => ?_)
  apply call_e Try.func51 (args := #[.pointer (some ⟨bx, 0, none⟩), .int .i64 (leVal (nxt l0 (pos l0 0 1) 1))]); (case hname => kernel_rfl); (case hb => rfl); (case hop => rfl); (case hN => rfl); (case hw => rfl); (case hargs => ((try simp only [List.map_toArray, List.map_cons, List.map_nil]); first | done | rfl)); (case hcl => exact next_at (by first | exact HA.out | exact HA.out.any rfl rfl rfl rfl) (by repeat (first | exact Holds.At.here | apply Holds.At.there)) HL.out HC.out (by exact pos_le _ _ _) HK1.out.1 HK1.out.2 HS.out); rintro e w1 ⟨A1, d1, rfl, hd1, hs1, HB_⟩; refine ⟨_, rfl, ?_⟩; (clear HA; have HA := Aside0.mk HB_; clear HB_; have HS1 := Aside0.mk hs1; clear hs1 hd1)
  refine hK.out _ _ (by first | exact HA.out.none | exact (HA.out.any rfl rfl rfl rfl).none) (fun hHeld => ?_)
  clear hK K
  refine norm_ (a' := ?_) ?_ ?_
  rotate_left
  · show Act.put _ (some 19) _ = _
    simp only [Act.put, List.setIfInBounds_toArray, List.set_cons_zero, List.set_cons_succ, i64_w, i32_w]
    rfl
  refine take_ (i := 6) (N := some 20) (v := (.string (strOfNums (nxt l0 (pos l0 (pos l0 0 1) 1) (leVal (nxt l0 (pos l0 0 1) 1)).toNat)))) (a' := ?_) #[true, true, true, true, true, true, true, false] rfl rfl (by kernel_rfl) (fun _ _ _ h => h) (Or.inl ⟨by rfl, ?_⟩) (by first | exact HA.out.none | exact (HA.out.any rfl rfl rfl rfl).none) ?_ ?_
  · intro w' s0
    (apply run_text; (case hop => rfl); (case hev => conv => lhs; whnf); (case hv => rfl); (case hs => exact Try.underlying34); (case hd => exact Try.underlying9); (case he => exact Try.underlying5); (case hSr => exact HS1.out); (case hl => (have := nxt_le l0 (pos l0 (pos l0 0 1) 1) (leVal (nxt l0 (pos l0 0 1) 1)).toNat; have := HK1.out; omega)); (case HH => exact s0))
  rotate_left
  · simp only [Act.put, List.setIfInBounds_toArray, List.set_cons_zero, List.set_cons_succ, i64_w, i32_w]
    rfl
  refine pure_ (i := 7) (N := some 6) (v := ?_) (a' := ?_) #[true, true, true, true, true, true, true, true] rfl rfl (by kernel_rfl) (fun _ _ _ h => h) (Or.inl ⟨by rfl, ?_⟩) ?_ ?_
  rotate_left
  · intro w'
    go_simp
    with_reducible rfl
  rotate_left
  · simp only [Act.put, List.setIfInBounds_toArray, List.set_cons_zero, List.set_cons_succ, i64_w, i32_w]
    rfl
  refine done_ (by kernel_rfl) ?_
  go_wp2
  refine start_H (by first | exact HA.out.none | exact (HA.out.any rfl rfl rfl rfl).none) (n := 13) [] #[false, false, false, false, false, false, false, false, false, false, false, false, false] (by kernel_rfl) rfl rfl ?_
  refine pure_ (i := 0) (N := some 21) (v := ?_) (a' := ?_) #[true, false, false, false, false, false, false, false, false, false, false, false, false] rfl rfl (by kernel_rfl) (fun _ _ _ h => h) (Or.inl ⟨by rfl, ?_⟩) ?_ ?_
  rotate_left
  · intro w'
    go_simp
    with_reducible rfl
  rotate_left
  · simp only [Act.put, List.setIfInBounds_toArray, List.set_cons_zero, List.set_cons_succ, i64_w, i32_w]
    rfl
  refine pure_ (i := 1) (N := some 22) (v := ?_) (a' := ?_) #[true, true, false, false, false, false, false, false, false, false, false, false, false] rfl rfl (by kernel_rfl) (fun _ _ _ h => h) (Or.inl ⟨by rfl, ?_⟩) ?_ ?_
  rotate_left
  · intro w'
    go_simp
    with_reducible rfl
  rotate_left
  · simp only [Act.put, List.setIfInBounds_toArray, List.set_cons_zero, List.set_cons_succ, i64_w, i32_w]
    rfl
  refine pure_ (i := 2) (N := some 23) (v := ?_) (a' := ?_) #[true, true, true, false, false, false, false, false, false, false, false, false, false] rfl rfl (by kernel_rfl) (fun _ _ _ h => h) (Or.inl ⟨by rfl, ?_⟩) ?_ ?_
  rotate_left
  · intro w'
    go_simp
    with_reducible rfl
  rotate_left
  · simp only [Act.put, List.setIfInBounds_toArray, List.set_cons_zero, List.set_cons_succ, i64_w, i32_w]
    rfl
  refine pure_ (i := 3) (N := some 24) (v := ?_) (a' := ?_) #[true, true, true, true, false, false, false, false, false, false, false, false, false] rfl rfl (by kernel_rfl) (fun _ _ _ h => h) (Or.inl ⟨by rfl, ?_⟩) ?_ ?_
  rotate_left
  · intro w'
    go_simp
    with_reducible rfl
  rotate_left
  · simp only [Act.put, List.setIfInBounds_toArray, List.set_cons_zero, List.set_cons_succ, i64_w, i32_w]
    rfl
  refine pure_ (i := 4) (N := some 25) (v := ?_) (a' := ?_) #[true, true, true, true, true, false, false, false, false, false, false, false, false] rfl rfl (by kernel_rfl) (fun _ _ _ h => h) (Or.inl ⟨by rfl, ?_⟩) ?_ ?_
  rotate_left
  · intro w'
    go_simp
    with_reducible rfl
  rotate_left
  · simp only [Act.put, List.setIfInBounds_toArray, List.set_cons_zero, List.set_cons_succ, i64_w, i32_w]
    rfl
  refine pure_ (i := 8) (N := some 29) (v := ?_) (a' := ?_) #[true, true, true, true, true, false, false, false, true, false, false, false, false] rfl rfl (by kernel_rfl) (fun _ _ _ h => h) (Or.inl ⟨by rfl, ?_⟩) ?_ ?_
  rotate_left
  · intro w'
    go_simp
    with_reducible rfl
  rotate_left
  · simp only [Act.put, List.setIfInBounds_toArray, List.set_cons_zero, List.set_cons_succ, i64_w, i32_w]
    rfl
  refine pure_ (i := 9) (N := some 30) (v := ?_) (a' := ?_) #[true, true, true, true, true, false, false, false, true, true, false, false, false] rfl rfl (by kernel_rfl) (fun _ _ _ h => h) (Or.inl ⟨by rfl, ?_⟩) ?_ ?_
  rotate_left
  · intro w'
    go_simp
    with_reducible rfl
  rotate_left
  · simp only [Act.put, List.setIfInBounds_toArray, List.set_cons_zero, List.set_cons_succ, i64_w, i32_w]
    rfl
  refine two_ (i := 5) (j := 11) (Ni := some 26) (Nj := some 7) #[true, true, true, true, true, true, false, false, true, true, false, false, false] #[true, true, true, true, true, false, false, false, true, true, false, true, false] rfl rfl rfl rfl (by kernel_rfl) (by decide) (by decide) (fun K hK => ?_) (fun K hK => ?_)
  · skip
    apply call_e Try.func50 (args := #[.pointer (some ⟨bx, 0, none⟩), .int .i64 2]); (case hname => kernel_rfl); (case hb => rfl); (case hop => rfl); (case hN => rfl); (case hw => rfl); (case hargs => ((try simp only [List.map_toArray, List.map_cons, List.map_nil]); first | done | rfl)); (case hcl => exact number_at (g := bx) (k := 2) (by first | exact HA.out | exact HA.out.any rfl rfl rfl rfl) (by repeat (first | exact Holds.At.here | apply Holds.At.there)) HL.out HC.out (by first | exact pos_le _ _ _ | exact Nat.zero_le _ | omega) (by decide) (HS.out.mono (by simp)) hby.out); rintro e w1 ⟨rfl, HB_⟩; refine ⟨_, rfl, ?_⟩; (clear HA; have HA := Aside0.mk HB_; clear HB_)
    refine hK.out _ _ (by first | exact HA.out.none | exact (HA.out.any rfl rfl rfl rfl).none) (fun hHeld => ?_)
    clear hK K
    refine norm_ (a' := ?_) ?_ ?_
    rotate_left
    · show Act.put _ (some 26) _ = _
      simp only [Act.put, List.setIfInBounds_toArray, List.set_cons_zero, List.set_cons_succ, i64_w, i32_w]
      rfl
    refine two_ (i := 6) (j := 11) (Ni := some 27) (Nj := some 7) #[true, true, true, true, true, true, true, false, true, true, false, false, false] #[true, true, true, true, true, true, false, false, true, true, false, true, false] rfl rfl rfl rfl (by kernel_rfl) (by decide) (by decide) (fun K hK => ?_) (fun K hK => ?_)
    · skip
      apply call_e Try.func51 (args := #[.pointer (some ⟨bx, 0, none⟩), .int .i64 (leVal (nxt l0 (pos l0 (pos l0 (pos l0 0 1) 1) (leVal (nxt l0 (pos l0 0 1) 1)).toNat) 2))]); (case hname => kernel_rfl); (case hb => rfl); (case hop => rfl); (case hN => rfl); (case hw => rfl); (case hargs => ((try simp only [List.map_toArray, List.map_cons, List.map_nil]); first | done | rfl)); (case hcl => exact next_at (by first | exact HA.out | exact HA.out.any rfl rfl rfl rfl) (by repeat (first | exact Holds.At.here | apply Holds.At.there)) HL.out HC.out (by exact pos_le _ _ _) HK2.out.1 HK2.out.2 HS.out); rintro e w1 ⟨A2, d2, rfl, hd2, hs2, HB_⟩; refine ⟨_, rfl, ?_⟩; (clear HA; have HA := Aside0.mk HB_; clear HB_; have HS2 := Aside0.mk hs2; clear hs2 hd2)
      refine hK.out _ _ (by first | exact HA.out.none | exact (HA.out.any rfl rfl rfl rfl).none) (fun hHeld => ?_)
      clear hK K
      refine norm_ (a' := ?_) ?_ ?_
      rotate_left
      · show Act.put _ (some 27) _ = _
        simp only [Act.put, List.setIfInBounds_toArray, List.set_cons_zero, List.set_cons_succ, i64_w, i32_w]
        rfl
      refine take_ (i := 7) (N := some 28) (v := (.string (strOfNums (nxt l0 (pos l0 (pos l0 (pos l0 (pos l0 0 1) 1) (leVal (nxt l0 (pos l0 0 1) 1)).toNat) 2) (leVal (nxt l0 (pos l0 (pos l0 (pos l0 0 1) 1) (leVal (nxt l0 (pos l0 0 1) 1)).toNat) 2)).toNat)))) (a' := ?_) #[true, true, true, true, true, true, true, true, true, true, false, false, false] rfl rfl (by kernel_rfl) (fun _ _ _ h => h) (Or.inl ⟨by rfl, ?_⟩) (by first | exact HA.out.none | exact (HA.out.any rfl rfl rfl rfl).none) ?_ ?_
      · intro w' s0
        (apply run_text; (case hop => rfl); (case hev => conv => lhs; whnf); (case hv => rfl); (case hs => exact Try.underlying34); (case hd => exact Try.underlying9); (case he => exact Try.underlying5); (case hSr => exact HS2.out); (case hl => (have := nxt_le l0 (pos l0 (pos l0 (pos l0 (pos l0 0 1) 1) (leVal (nxt l0 (pos l0 0 1) 1)).toNat) 2) (leVal (nxt l0 (pos l0 (pos l0 (pos l0 0 1) 1) (leVal (nxt l0 (pos l0 0 1) 1)).toNat) 2)).toNat; have := HK2.out; omega)); (case HH => exact s0))
      rotate_left
      · simp only [Act.put, List.setIfInBounds_toArray, List.set_cons_zero, List.set_cons_succ, i64_w, i32_w]
        rfl
      refine pure_ (i := 10) (N := some 31) (v := ?_) (a' := ?_) #[true, true, true, true, true, true, true, true, true, true, true, false, false] rfl rfl (by kernel_rfl) (fun _ _ _ h => h) (Or.inl ⟨by rfl, ?_⟩) ?_ ?_
      rotate_left
      · intro w'
        go_simp
        with_reducible rfl
      rotate_left
      · simp only [Act.put, List.setIfInBounds_toArray, List.set_cons_zero, List.set_cons_succ, i64_w, i32_w]
        rfl
      refine one_ (i := 11) (N := some 7) #[true, true, true, true, true, true, true, true, true, true, true, true, false] rfl rfl (by kernel_rfl) (by decide) (fun K hK => ?_)
      apply alloc_e (z := .agg #[.string ⟨#[]⟩, .string ⟨#[]⟩, .bool false]); (case HH => first | exact HA.out | exact HA.out.any rfl rfl rfl rfl); (case hop => rfl); (case hN => rfl); (case hw => rfl); (case hz => kernel_rfl); (case hx => rfl); intro bn w1 HB_; clear HA; have HA := Aside0.mk HB_; clear HB_
      refine hK.out _ _ (by first | exact HA.out.none | exact (HA.out.any rfl rfl rfl rfl).none) (fun hHeld => ?_)
      clear hK K
      refine norm_ (a' := ?_) ?_ ?_
      rotate_left
      · show Act.put _ (some 7) _ = _
        simp only [Act.put, List.setIfInBounds_toArray, List.set_cons_zero, List.set_cons_succ, i64_w, i32_w]
        rfl
      refine one_ (i := 12) (N := none) #[true, true, true, true, true, true, true, true, true, true, true, true, true] rfl rfl (by kernel_rfl) (by decide) (fun K hK => ?_)
      apply store_e; (case HH => first | exact HA.out | exact HA.out.any rfl rfl rfl rfl); (case hop => rfl); (case hN => rfl); (case hw => rfl); (case hx => rfl); (case hev => conv => lhs; whnf); (case hy => rfl); (case hm => repeat (first | exact Holds.At.here | apply Holds.At.there)); (case hl => rfl); (case hn => kernel_rfl); (case h1 => simp [Value.oneCell']); (case hi => simp); intro w1 HB_; simp only [splice, List.set_cons_zero, List.set_cons_succ] at HB_; clear HA; have HA := Aside0.mk HB_; clear HB_
      refine hK.out _ _ (by first | exact HA.out.none | exact (HA.out.any rfl rfl rfl rfl).none) (fun hHeld => ?_)
      clear hK K
      refine done_ (by kernel_rfl) ?_
      go_wp2_with (first     | ((with_reducible apply load1_); (case HH => first | exact HA.out | exact HA.out.any rfl rfl rfl rfl); (case ht => rfl); (case hx => rfl); (case hw => rfl); (case hm => repeat (first | exact List.Mem.head _ | refine List.Mem.tail _ ?_)); (case hv => exact rfl); simp only [Act.put, List.setIfInBounds_toArray, List.set_cons_zero, List.set_cons_succ])     | ((with_reducible apply loadN_ (n := 3)); (case HH => first | exact HA.out | exact HA.out.any rfl rfl rfl rfl); (case ht => rfl); (case hn => decide +kernel); (case hx => rfl); (case hw => rfl); (case hm => repeat (first | exact List.Mem.head _ | refine List.Mem.tail _ ?_)); (case hv => first | (simp only [List.drop_succ_cons, List.drop_zero, List.take_succ_cons, List.take_zero]; rfl) | rfl); (case hl => rfl); simp only [Act.put, List.setIfInBounds_toArray, List.set_cons_zero, List.set_cons_succ])     | ((with_reducible apply box_); (case HH => first | exact HA.out | exact HA.out.any rfl rfl rfl rfl); (case hw => rfl); (case hev => conv => lhs; whnf); (case hy => rfl); intro bx w1 HB_; simp only [Act.put, List.setIfInBounds_toArray, List.set_cons_zero, List.set_cons_succ]; clear HA; have HA := Aside0.mk HB_; clear HB_)     | ((with_reducible apply alloc_ (z := .agg #[.string ⟨#[]⟩, .string ⟨#[]⟩, .bool false])); (case HH => first | exact HA.out | exact HA.out.any rfl rfl rfl rfl); (case hw => rfl); (case hz => kernel_rfl); (case hx => rfl); intro bx w1 HB_; simp only [Act.put, List.setIfInBounds_toArray, List.set_cons_zero, List.set_cons_succ]; clear HA; have HA := Aside0.mk HB_; clear HB_)     | ((with_reducible apply store_); (case HH => first | exact HA.out | exact HA.out.any rfl rfl rfl rfl); (case hw => rfl); (case hx => rfl); (case hev => conv => lhs; whnf); (case hy => rfl); (case hm => repeat (first | exact Holds.At.here | apply Holds.At.there)); (case hl => rfl); (case hn => kernel_rfl); (case h1 => simp [Value.oneCell']); (case hi => simp); intro w1 HB_; simp only [splice, List.set_cons_zero, List.set_cons_succ] at HB_; clear HA; have HA := Aside0.mk HB_; clear HB_)     | (go_at_call 50; (with_reducible apply Calls.mono); (case h => exact number_at (by first | exact HA.out | exact HA.out.any rfl rfl rfl rfl) (by repeat (first | exact Holds.At.here | apply Holds.At.there)) HL.out HC.out (by first | exact pos_le _ _ _ | exact Nat.zero_le _ | omega) (by decide) (HS.out.mono (by simp)) hby.out); rintro e w1 ⟨rfl, HB_⟩; clear HA; have HA := Aside0.mk HB_; clear HB_)     | (go_at_call 52; (with_reducible apply Calls.mono); (case h => exact done_calls _ _ _ _ l0 w _ _ [] (by first | exact HA.out | exact HA.out.any rfl rfl rfl rfl) (by repeat (first | exact List.Mem.head _ | refine List.Mem.tail _ ?_))); rintro e w' ⟨rfl, ⟨nd, rfl⟩⟩)     | (go_at_call 22; (with_reducible refine (node_Right.calls _ _ _ _ _ HR.out).mono ?_); rintro e w1 ⟨rfl, hb_⟩; have HB_ := HA.out.call1 hb_ rfl rfl rfl rfl; clear hb_; clear HA; have HA := Aside0.mk HB_; clear HB_)); (apply end_list [.cell 2 32, .tmp 3]; (case hres => rfl); (case hd => rfl); (case hvs => apply vcell (by first | exact HA.out | exact HA.out.any rfl rfl rfl rfl); (case hp => rfl); (case hm => repeat (first | exact List.Mem.head _ | refine List.Mem.tail _ ?_)); (case hag => rfl); (case hi => kernel_rfl); (case hvs => apply Vals.tmp; exact .nil)); (case hl => simp); (case hR => exact ⟨rfl, HA.out.below⟩))
    · skip
      apply alloc_e (z := .agg #[.string ⟨#[]⟩, .string ⟨#[]⟩, .bool false]); (case HH => first | exact HA.out | exact HA.out.any rfl rfl rfl rfl); (case hop => rfl); (case hN => rfl); (case hw => rfl); (case hz => kernel_rfl); (case hx => rfl); intro bn w1 HB_; clear HA; have HA := Aside0.mk HB_; clear HB_
      refine hK.out _ _ (by first | exact HA.out.none | exact (HA.out.any rfl rfl rfl rfl).none) (fun hHeld => ?_)
      clear hK K
      refine norm_ (a' := ?_) ?_ ?_
      rotate_left
      · show Act.put _ (some 7) _ = _
        simp only [Act.put, List.setIfInBounds_toArray, List.set_cons_zero, List.set_cons_succ, i64_w, i32_w]
        rfl
      refine one_ (i := 6) (N := some 27) #[true, true, true, true, true, true, true, false, true, true, false, true, false] rfl rfl (by kernel_rfl) (by decide) (fun K hK => ?_)
      apply call_e Try.func51 (args := #[.pointer (some ⟨bx, 0, none⟩), .int .i64 (leVal (nxt l0 (pos l0 (pos l0 (pos l0 0 1) 1) (leVal (nxt l0 (pos l0 0 1) 1)).toNat) 2))]); (case hname => kernel_rfl); (case hb => rfl); (case hop => rfl); (case hN => rfl); (case hw => rfl); (case hargs => ((try simp only [List.map_toArray, List.map_cons, List.map_nil]); first | done | rfl)); (case hcl => exact next_at (by first | exact HA.out | exact HA.out.any rfl rfl rfl rfl) (by repeat (first | exact Holds.At.here | apply Holds.At.there)) HL.out HC.out (by exact pos_le _ _ _) HK2.out.1 HK2.out.2 HS.out); rintro e w1 ⟨A2, d2, rfl, hd2, hs2, HB_⟩; refine ⟨_, rfl, ?_⟩; (clear HA; have HA := Aside0.mk HB_; clear HB_; have HS2 := Aside0.mk hs2; clear hs2 hd2)
      refine hK.out _ _ (by first | exact HA.out.none | exact (HA.out.any rfl rfl rfl rfl).none) (fun hHeld => ?_)
      clear hK K
      refine norm_ (a' := ?_) ?_ ?_
      rotate_left
      · show Act.put _ (some 27) _ = _
        simp only [Act.put, List.setIfInBounds_toArray, List.set_cons_zero, List.set_cons_succ, i64_w, i32_w]
        rfl
      refine take_ (i := 7) (N := some 28) (v := (.string (strOfNums (nxt l0 (pos l0 (pos l0 (pos l0 (pos l0 0 1) 1) (leVal (nxt l0 (pos l0 0 1) 1)).toNat) 2) (leVal (nxt l0 (pos l0 (pos l0 (pos l0 0 1) 1) (leVal (nxt l0 (pos l0 0 1) 1)).toNat) 2)).toNat)))) (a' := ?_) #[true, true, true, true, true, true, true, true, true, true, false, true, false] rfl rfl (by kernel_rfl) (fun _ _ _ h => h) (Or.inl ⟨by rfl, ?_⟩) (by first | exact HA.out.none | exact (HA.out.any rfl rfl rfl rfl).none) ?_ ?_
      · intro w' s0
        (apply run_text; (case hop => rfl); (case hev => conv => lhs; whnf); (case hv => rfl); (case hs => exact Try.underlying34); (case hd => exact Try.underlying9); (case he => exact Try.underlying5); (case hSr => exact HS2.out); (case hl => (have := nxt_le l0 (pos l0 (pos l0 (pos l0 (pos l0 0 1) 1) (leVal (nxt l0 (pos l0 0 1) 1)).toNat) 2) (leVal (nxt l0 (pos l0 (pos l0 (pos l0 0 1) 1) (leVal (nxt l0 (pos l0 0 1) 1)).toNat) 2)).toNat; have := HK2.out; omega)); (case HH => exact s0))
      rotate_left
      · simp only [Act.put, List.setIfInBounds_toArray, List.set_cons_zero, List.set_cons_succ, i64_w, i32_w]
        rfl
      refine pure_ (i := 10) (N := some 31) (v := ?_) (a' := ?_) #[true, true, true, true, true, true, true, true, true, true, true, true, false] rfl rfl (by kernel_rfl) (fun _ _ _ h => h) (Or.inl ⟨by rfl, ?_⟩) ?_ ?_
      rotate_left
      · intro w'
        go_simp
        with_reducible rfl
      rotate_left
      · simp only [Act.put, List.setIfInBounds_toArray, List.set_cons_zero, List.set_cons_succ, i64_w, i32_w]
        rfl
      refine one_ (i := 12) (N := none) #[true, true, true, true, true, true, true, true, true, true, true, true, true] rfl rfl (by kernel_rfl) (by decide) (fun K hK => ?_)
      apply store_e; (case HH => first | exact HA.out | exact HA.out.any rfl rfl rfl rfl); (case hop => rfl); (case hN => rfl); (case hw => rfl); (case hx => rfl); (case hev => conv => lhs; whnf); (case hy => rfl); (case hm => repeat (first | exact Holds.At.here | apply Holds.At.there)); (case hl => rfl); (case hn => kernel_rfl); (case h1 => simp [Value.oneCell']); (case hi => simp); intro w1 HB_; simp only [splice, List.set_cons_zero, List.set_cons_succ] at HB_; clear HA; have HA := Aside0.mk HB_; clear HB_
      refine hK.out _ _ (by first | exact HA.out.none | exact (HA.out.any rfl rfl rfl rfl).none) (fun hHeld => ?_)
      clear hK K
      refine done_ (by kernel_rfl) ?_
      go_wp2_with (first     | ((with_reducible apply load1_); (case HH => first | exact HA.out | exact HA.out.any rfl rfl rfl rfl); (case ht => rfl); (case hx => rfl); (case hw => rfl); (case hm => repeat (first | exact List.Mem.head _ | refine List.Mem.tail _ ?_)); (case hv => exact rfl); simp only [Act.put, List.setIfInBounds_toArray, List.set_cons_zero, List.set_cons_succ])     | ((with_reducible apply loadN_ (n := 3)); (case HH => first | exact HA.out | exact HA.out.any rfl rfl rfl rfl); (case ht => rfl); (case hn => decide +kernel); (case hx => rfl); (case hw => rfl); (case hm => repeat (first | exact List.Mem.head _ | refine List.Mem.tail _ ?_)); (case hv => first | (simp only [List.drop_succ_cons, List.drop_zero, List.take_succ_cons, List.take_zero]; rfl) | rfl); (case hl => rfl); simp only [Act.put, List.setIfInBounds_toArray, List.set_cons_zero, List.set_cons_succ])     | ((with_reducible apply box_); (case HH => first | exact HA.out | exact HA.out.any rfl rfl rfl rfl); (case hw => rfl); (case hev => conv => lhs; whnf); (case hy => rfl); intro bx w1 HB_; simp only [Act.put, List.setIfInBounds_toArray, List.set_cons_zero, List.set_cons_succ]; clear HA; have HA := Aside0.mk HB_; clear HB_)     | ((with_reducible apply alloc_ (z := .agg #[.string ⟨#[]⟩, .string ⟨#[]⟩, .bool false])); (case HH => first | exact HA.out | exact HA.out.any rfl rfl rfl rfl); (case hw => rfl); (case hz => kernel_rfl); (case hx => rfl); intro bx w1 HB_; simp only [Act.put, List.setIfInBounds_toArray, List.set_cons_zero, List.set_cons_succ]; clear HA; have HA := Aside0.mk HB_; clear HB_)     | ((with_reducible apply store_); (case HH => first | exact HA.out | exact HA.out.any rfl rfl rfl rfl); (case hw => rfl); (case hx => rfl); (case hev => conv => lhs; whnf); (case hy => rfl); (case hm => repeat (first | exact Holds.At.here | apply Holds.At.there)); (case hl => rfl); (case hn => kernel_rfl); (case h1 => simp [Value.oneCell']); (case hi => simp); intro w1 HB_; simp only [splice, List.set_cons_zero, List.set_cons_succ] at HB_; clear HA; have HA := Aside0.mk HB_; clear HB_)     | (go_at_call 50; (with_reducible apply Calls.mono); (case h => exact number_at (by first | exact HA.out | exact HA.out.any rfl rfl rfl rfl) (by repeat (first | exact Holds.At.here | apply Holds.At.there)) HL.out HC.out (by first | exact pos_le _ _ _ | exact Nat.zero_le _ | omega) (by decide) (HS.out.mono (by simp)) hby.out); rintro e w1 ⟨rfl, HB_⟩; clear HA; have HA := Aside0.mk HB_; clear HB_)     | (go_at_call 52; (with_reducible apply Calls.mono); (case h => exact done_calls _ _ _ _ l0 w _ _ [] (by first | exact HA.out | exact HA.out.any rfl rfl rfl rfl) (by repeat (first | exact List.Mem.head _ | refine List.Mem.tail _ ?_))); rintro e w' ⟨rfl, ⟨nd, rfl⟩⟩)     | (go_at_call 22; (with_reducible refine (node_Right.calls _ _ _ _ _ HR.out).mono ?_); rintro e w1 ⟨rfl, hb_⟩; have HB_ := HA.out.call1 hb_ rfl rfl rfl rfl; clear hb_; clear HA; have HA := Aside0.mk HB_; clear HB_)); (apply end_list [.cell 2 32, .tmp 3]; (case hres => rfl); (case hd => rfl); (case hvs => apply vcell (by first | exact HA.out | exact HA.out.any rfl rfl rfl rfl); (case hp => rfl); (case hm => repeat (first | exact List.Mem.head _ | refine List.Mem.tail _ ?_)); (case hag => rfl); (case hi => kernel_rfl); (case hvs => apply Vals.tmp; exact .nil)); (case hl => simp); (case hR => exact ⟨rfl, HA.out.below⟩))
  · skip
    apply alloc_e (z := .agg #[.string ⟨#[]⟩, .string ⟨#[]⟩, .bool false]); (case HH => first | exact HA.out | exact HA.out.any rfl rfl rfl rfl); (case hop => rfl); (case hN => rfl); (case hw => rfl); (case hz => kernel_rfl); (case hx => rfl); intro bn w1 HB_; clear HA; have HA := Aside0.mk HB_; clear HB_
    refine hK.out _ _ (by first | exact HA.out.none | exact (HA.out.any rfl rfl rfl rfl).none) (fun hHeld => ?_)
    clear hK K
    refine norm_ (a' := ?_) ?_ ?_
    rotate_left
    · show Act.put _ (some 7) _ = _
      simp only [Act.put, List.setIfInBounds_toArray, List.set_cons_zero, List.set_cons_succ, i64_w, i32_w]
      rfl
    refine one_ (i := 5) (N := some 26) #[true, true, true, true, true, true, false, false, true, true, false, true, false] rfl rfl (by kernel_rfl) (by decide) (fun K hK => ?_)
    apply call_e Try.func50 (args := #[.pointer (some ⟨bx, 0, none⟩), .int .i64 2]); (case hname => kernel_rfl); (case hb => rfl); (case hop => rfl); (case hN => rfl); (case hw => rfl); (case hargs => ((try simp only [List.map_toArray, List.map_cons, List.map_nil]); first | done | rfl)); (case hcl => exact number_at (g := bx) (k := 2) (by first | exact HA.out | exact HA.out.any rfl rfl rfl rfl) (by repeat (first | exact Holds.At.here | apply Holds.At.there)) HL.out HC.out (by first | exact pos_le _ _ _ | exact Nat.zero_le _ | omega) (by decide) (HS.out.mono (by simp)) hby.out); rintro e w1 ⟨rfl, HB_⟩; refine ⟨_, rfl, ?_⟩; (clear HA; have HA := Aside0.mk HB_; clear HB_)
    refine hK.out _ _ (by first | exact HA.out.none | exact (HA.out.any rfl rfl rfl rfl).none) (fun hHeld => ?_)
    clear hK K
    refine norm_ (a' := ?_) ?_ ?_
    rotate_left
    · show Act.put _ (some 26) _ = _
      simp only [Act.put, List.setIfInBounds_toArray, List.set_cons_zero, List.set_cons_succ, i64_w, i32_w]
      rfl
    refine one_ (i := 6) (N := some 27) #[true, true, true, true, true, true, true, false, true, true, false, true, false] rfl rfl (by kernel_rfl) (by decide) (fun K hK => ?_)
    apply call_e Try.func51 (args := #[.pointer (some ⟨bx, 0, none⟩), .int .i64 (leVal (nxt l0 (pos l0 (pos l0 (pos l0 0 1) 1) (leVal (nxt l0 (pos l0 0 1) 1)).toNat) 2))]); (case hname => kernel_rfl); (case hb => rfl); (case hop => rfl); (case hN => rfl); (case hw => rfl); (case hargs => ((try simp only [List.map_toArray, List.map_cons, List.map_nil]); first | done | rfl)); (case hcl => exact next_at (by first | exact HA.out | exact HA.out.any rfl rfl rfl rfl) (by repeat (first | exact Holds.At.here | apply Holds.At.there)) HL.out HC.out (by exact pos_le _ _ _) HK2.out.1 HK2.out.2 HS.out); rintro e w1 ⟨A2, d2, rfl, hd2, hs2, HB_⟩; refine ⟨_, rfl, ?_⟩; (clear HA; have HA := Aside0.mk HB_; clear HB_; have HS2 := Aside0.mk hs2; clear hs2 hd2)
    refine hK.out _ _ (by first | exact HA.out.none | exact (HA.out.any rfl rfl rfl rfl).none) (fun hHeld => ?_)
    clear hK K
    refine norm_ (a' := ?_) ?_ ?_
    rotate_left
    · show Act.put _ (some 27) _ = _
      simp only [Act.put, List.setIfInBounds_toArray, List.set_cons_zero, List.set_cons_succ, i64_w, i32_w]
      rfl
    refine take_ (i := 7) (N := some 28) (v := (.string (strOfNums (nxt l0 (pos l0 (pos l0 (pos l0 (pos l0 0 1) 1) (leVal (nxt l0 (pos l0 0 1) 1)).toNat) 2) (leVal (nxt l0 (pos l0 (pos l0 (pos l0 0 1) 1) (leVal (nxt l0 (pos l0 0 1) 1)).toNat) 2)).toNat)))) (a' := ?_) #[true, true, true, true, true, true, true, true, true, true, false, true, false] rfl rfl (by kernel_rfl) (fun _ _ _ h => h) (Or.inl ⟨by rfl, ?_⟩) (by first | exact HA.out.none | exact (HA.out.any rfl rfl rfl rfl).none) ?_ ?_
    · intro w' s0
      (apply run_text; (case hop => rfl); (case hev => conv => lhs; whnf); (case hv => rfl); (case hs => exact Try.underlying34); (case hd => exact Try.underlying9); (case he => exact Try.underlying5); (case hSr => exact HS2.out); (case hl => (have := nxt_le l0 (pos l0 (pos l0 (pos l0 (pos l0 0 1) 1) (leVal (nxt l0 (pos l0 0 1) 1)).toNat) 2) (leVal (nxt l0 (pos l0 (pos l0 (pos l0 0 1) 1) (leVal (nxt l0 (pos l0 0 1) 1)).toNat) 2)).toNat; have := HK2.out; omega)); (case HH => exact s0))
    rotate_left
    · simp only [Act.put, List.setIfInBounds_toArray, List.set_cons_zero, List.set_cons_succ, i64_w, i32_w]
      rfl
    refine pure_ (i := 10) (N := some 31) (v := ?_) (a' := ?_) #[true, true, true, true, true, true, true, true, true, true, true, true, false] rfl rfl (by kernel_rfl) (fun _ _ _ h => h) (Or.inl ⟨by rfl, ?_⟩) ?_ ?_
    rotate_left
    · intro w'
      go_simp
      with_reducible rfl
    rotate_left
    · simp only [Act.put, List.setIfInBounds_toArray, List.set_cons_zero, List.set_cons_succ, i64_w, i32_w]
      rfl
    refine one_ (i := 12) (N := none) #[true, true, true, true, true, true, true, true, true, true, true, true, true] rfl rfl (by kernel_rfl) (by decide) (fun K hK => ?_)
    apply store_e; (case HH => first | exact HA.out | exact HA.out.any rfl rfl rfl rfl); (case hop => rfl); (case hN => rfl); (case hw => rfl); (case hx => rfl); (case hev => conv => lhs; whnf); (case hy => rfl); (case hm => repeat (first | exact Holds.At.here | apply Holds.At.there)); (case hl => rfl); (case hn => kernel_rfl); (case h1 => simp [Value.oneCell']); (case hi => simp); intro w1 HB_; simp only [splice, List.set_cons_zero, List.set_cons_succ] at HB_; clear HA; have HA := Aside0.mk HB_; clear HB_
    refine hK.out _ _ (by first | exact HA.out.none | exact (HA.out.any rfl rfl rfl rfl).none) (fun hHeld => ?_)
    clear hK K
    refine done_ (by kernel_rfl) ?_
    go_wp2_with (first     | ((with_reducible apply load1_); (case HH => first | exact HA.out | exact HA.out.any rfl rfl rfl rfl); (case ht => rfl); (case hx => rfl); (case hw => rfl); (case hm => repeat (first | exact List.Mem.head _ | refine List.Mem.tail _ ?_)); (case hv => exact rfl); simp only [Act.put, List.setIfInBounds_toArray, List.set_cons_zero, List.set_cons_succ])     | ((with_reducible apply loadN_ (n := 3)); (case HH => first | exact HA.out | exact HA.out.any rfl rfl rfl rfl); (case ht => rfl); (case hn => decide +kernel); (case hx => rfl); (case hw => rfl); (case hm => repeat (first | exact List.Mem.head _ | refine List.Mem.tail _ ?_)); (case hv => first | (simp only [List.drop_succ_cons, List.drop_zero, List.take_succ_cons, List.take_zero]; rfl) | rfl); (case hl => rfl); simp only [Act.put, List.setIfInBounds_toArray, List.set_cons_zero, List.set_cons_succ])     | ((with_reducible apply box_); (case HH => first | exact HA.out | exact HA.out.any rfl rfl rfl rfl); (case hw => rfl); (case hev => conv => lhs; whnf); (case hy => rfl); intro bx w1 HB_; simp only [Act.put, List.setIfInBounds_toArray, List.set_cons_zero, List.set_cons_succ]; clear HA; have HA := Aside0.mk HB_; clear HB_)     | ((with_reducible apply alloc_ (z := .agg #[.string ⟨#[]⟩, .string ⟨#[]⟩, .bool false])); (case HH => first | exact HA.out | exact HA.out.any rfl rfl rfl rfl); (case hw => rfl); (case hz => kernel_rfl); (case hx => rfl); intro bx w1 HB_; simp only [Act.put, List.setIfInBounds_toArray, List.set_cons_zero, List.set_cons_succ]; clear HA; have HA := Aside0.mk HB_; clear HB_)     | ((with_reducible apply store_); (case HH => first | exact HA.out | exact HA.out.any rfl rfl rfl rfl); (case hw => rfl); (case hx => rfl); (case hev => conv => lhs; whnf); (case hy => rfl); (case hm => repeat (first | exact Holds.At.here | apply Holds.At.there)); (case hl => rfl); (case hn => kernel_rfl); (case h1 => simp [Value.oneCell']); (case hi => simp); intro w1 HB_; simp only [splice, List.set_cons_zero, List.set_cons_succ] at HB_; clear HA; have HA := Aside0.mk HB_; clear HB_)     | (go_at_call 50; (with_reducible apply Calls.mono); (case h => exact number_at (by first | exact HA.out | exact HA.out.any rfl rfl rfl rfl) (by repeat (first | exact Holds.At.here | apply Holds.At.there)) HL.out HC.out (by first | exact pos_le _ _ _ | exact Nat.zero_le _ | omega) (by decide) (HS.out.mono (by simp)) hby.out); rintro e w1 ⟨rfl, HB_⟩; clear HA; have HA := Aside0.mk HB_; clear HB_)     | (go_at_call 52; (with_reducible apply Calls.mono); (case h => exact done_calls _ _ _ _ l0 w _ _ [] (by first | exact HA.out | exact HA.out.any rfl rfl rfl rfl) (by repeat (first | exact List.Mem.head _ | refine List.Mem.tail _ ?_))); rintro e w' ⟨rfl, ⟨nd, rfl⟩⟩)     | (go_at_call 22; (with_reducible refine (node_Right.calls _ _ _ _ _ HR.out).mono ?_); rintro e w1 ⟨rfl, hb_⟩; have HB_ := HA.out.call1 hb_ rfl rfl rfl rfl; clear hb_; clear HA; have HA := Aside0.mk HB_; clear HB_)); (apply end_list [.cell 2 32, .tmp 3]; (case hres => rfl); (case hd => rfl); (case hvs => apply vcell (by first | exact HA.out | exact HA.out.any rfl rfl rfl rfl); (case hp => rfl); (case hm => repeat (first | exact List.Mem.head _ | refine List.Mem.tail _ ?_)); (case hag => rfl); (case hi => kernel_rfl); (case hvs => apply Vals.tmp; exact .nil)); (case hl => simp); (case hR => exact ⟨rfl, HA.out.below⟩))
set_option maxHeartbeats 8000000 in
set_option maxRecDepth 100000 in
theorem unpack_d1 (A0 : Option Addr) (c0 : Nat) (l0 : List Int) (w : World) (hr0 : Kd.C (Kd.int .u8) w A0 l0.length l0) (hc0 : l0.length ≤ c0) (hl : l0.length ≤ 281474976710656) (hb : Bytes l0) (f0 : (leVal (nxt l0 0 1) == 1) = true) (f1 : (leVal (nxt l0 0 1) != 1) = false) (f2 : (leVal (nxt l0 0 1) == 2) = false) (f3 : (leVal (nxt l0 0 1) != 2) = true) (f4 : ((((pos l0 (pos l0 (pos l0 (pos l0 (pos l0 0 1) 1) (leVal (nxt l0 (pos l0 0 1) 1)).toNat) 2) (leVal (nxt l0 (pos l0 (pos l0 (pos l0 0 1) 1) (leVal (nxt l0 (pos l0 0 1) 1)).toNat) 2)).toNat) : Nat) : Int) == (l0.length : Int)) = false) :
    Calls Try.prog 26 #[.slice A0 l0.length c0] w fun e w' => e = .returned (.tuple #[.agg #[.string ⟨#[]⟩, .string ⟨#[]⟩, .bool false], .bool false]) ∧ Below w.heap.size w w' := by
  have HS : Aside0 (Src (Value.int .u8) w [] A0 l0) := Aside0.mk (Src.of_C (h1 := fun _ => rfl) hr0)
  have HL := Aside0.mk hl
  have hby := Aside0.mk hb
  have HC := Aside0.mk hc0
  have HA := Aside0.mk (Holds.start w)
  have HK1 := Aside0.mk (show (leVal (nxt l0 (pos l0 0 1) 1)).toNat ≤ 1048576 ∧ leVal (nxt l0 (pos l0 0 1) 1) = ((leVal (nxt l0 (pos l0 0 1) 1)).toNat : Int) from by have := leVal_small (hb.nxt (pos l0 0 1) 1) (nxt_le l0 _ 1); omega)
  have HK2 := Aside0.mk (show (leVal (nxt l0 (pos l0 (pos l0 (pos l0 0 1) 1) (leVal (nxt l0 (pos l0 0 1) 1)).toNat) 2)).toNat ≤ 1048576 ∧ leVal (nxt l0 (pos l0 (pos l0 (pos l0 0 1) 1) (leVal (nxt l0 (pos l0 0 1) 1)).toNat) 2) = ((leVal (nxt l0 (pos l0 (pos l0 (pos l0 0 1) 1) (leVal (nxt l0 (pos l0 0 1) 1)).toNat) 2)).toNat : Int) from by have := leVal_small2 (hb.nxt (pos l0 (pos l0 (pos l0 0 1) 1) (leVal (nxt l0 (pos l0 0 1) 1)).toNat) 2) (nxt_le l0 _ 2); omega)
  clear hr0 hl hb hc0
  go_enter Try.func26, Try.ntmps26
  go_wp2_with (first
    | ((with_reducible apply load1_); (case HH => first | exact HA.out | exact HA.out.any rfl rfl rfl rfl); (case ht => rfl); (case hx => rfl); (case hw => rfl); (case hm => repeat (first | exact List.Mem.head _ | refine List.Mem.tail _ ?_)); (case hv => exact rfl); simp only [Act.put, List.setIfInBounds_toArray, List.set_cons_zero, List.set_cons_succ])
    | ((with_reducible apply loadN_ (n := 3)); (case HH => first | exact HA.out | exact HA.out.any rfl rfl rfl rfl); (case ht => rfl); (case hn => decide +kernel); (case hx => rfl); (case hw => rfl); (case hm => repeat (first | exact List.Mem.head _ | refine List.Mem.tail _ ?_)); (case hv => first | (simp only [List.drop_succ_cons, List.drop_zero, List.take_succ_cons, List.take_zero]; rfl) | rfl); (case hl => rfl); simp only [Act.put, List.setIfInBounds_toArray, List.set_cons_zero, List.set_cons_succ])
    | ((with_reducible apply box_); (case HH => first | exact HA.out | exact HA.out.any rfl rfl rfl rfl); (case hw => rfl); (case hev => conv => lhs; whnf); (case hy => rfl); intro bx w1 HB_; simp only [Act.put, List.setIfInBounds_toArray, List.set_cons_zero, List.set_cons_succ]; clear HA; have HA := Aside0.mk HB_; clear HB_)
    | ((with_reducible apply alloc_ (z := .agg #[.string ⟨#[]⟩, .string ⟨#[]⟩, .bool false])); (case HH => first | exact HA.out | exact HA.out.any rfl rfl rfl rfl); (case hw => rfl); (case hz => kernel_rfl); (case hx => rfl); intro bx w1 HB_; simp only [Act.put, List.setIfInBounds_toArray, List.set_cons_zero, List.set_cons_succ]; clear HA; have HA := Aside0.mk HB_; clear HB_)
    | ((with_reducible apply store_); (case HH => first | exact HA.out | exact HA.out.any rfl rfl rfl rfl); (case hw => rfl); (case hx => rfl); (case hev => conv => lhs; whnf); (case hy => rfl); (case hm => repeat (first | exact Holds.At.here | apply Holds.At.there)); (case hl => rfl); (case hn => kernel_rfl); (case h1 => simp [Value.oneCell']); (case hi => simp); intro w1 HB_; simp only [splice, List.set_cons_zero, List.set_cons_succ] at HB_; clear HA; have HA := Aside0.mk HB_; clear HB_)
    | (go_at_call 50; (with_reducible apply Calls.mono); (case h => exact number_at (by first | exact HA.out | exact HA.out.any rfl rfl rfl rfl) (by repeat (first | exact Holds.At.here | apply Holds.At.there)) HL.out HC.out (by first | exact pos_le _ _ _ | exact Nat.zero_le _ | omega) (by decide) (HS.out.mono (by simp)) hby.out); rintro e w1 ⟨rfl, HB_⟩; clear HA; have HA := Aside0.mk HB_; clear HB_)
    | (go_at_call 52; (with_reducible apply Calls.mono); (case h => exact done_calls _ _ _ _ l0 w _ _ [] (by first | exact HA.out | exact HA.out.any rfl rfl rfl rfl) (by repeat (first | exact List.Mem.head _ | refine List.Mem.tail _ ?_))); rintro e w' ⟨rfl, ⟨nd, rfl⟩⟩))
  refine start_H (by first | exact HA.out.none | exact (HA.out.any rfl rfl rfl rfl).none) (n := 8) [] #[false, false, false, false, false, false, false, false] (by kernel_rfl) rfl rfl ?_
  refine pure_ (i := 0) (N := some 14) (v := ?_) (a' := ?_) #[true, false, false, false, false, false, false, false] rfl rfl (by kernel_rfl) (fun _ _ _ h => h) (Or.inl ⟨by rfl, ?_⟩) ?_ ?_
  rotate_left
  · intro w'
    go_simp
    with_reducible rfl
  rotate_left
  · simp only [Act.put, List.setIfInBounds_toArray, List.set_cons_zero, List.set_cons_succ, i64_w, i32_w]
    rfl
  refine pure_ (i := 1) (N := some 15) (v := ?_) (a' := ?_) #[true, true, false, false, false, false, false, false] rfl rfl (by kernel_rfl) (fun _ _ _ h => h) (Or.inl ⟨by rfl, ?_⟩) ?_ ?_
  rotate_left
  · intro w'
    go_simp
    with_reducible rfl
  rotate_left
  · simp only [Act.put, List.setIfInBounds_toArray, List.set_cons_zero, List.set_cons_succ, i64_w, i32_w]
    rfl
  refine pure_ (i := 2) (N := some 16) (v := ?_) (a' := ?_) #[true, true, true, false, false, false, false, false] rfl rfl (by kernel_rfl) (fun _ _ _ h => h) (Or.inl ⟨by rfl, ?_⟩) ?_ ?_
  rotate_left
  · intro w'
    go_simp
    with_reducible rfl
  rotate_left
  · simp only [Act.put, List.setIfInBounds_toArray, List.set_cons_zero, List.set_cons_succ, i64_w, i32_w]
    rfl
  refine pure_ (i := 3) (N := some 17) (v := ?_) (a' := ?_) #[true, true, true, true, false, false, false, false] rfl rfl (by kernel_rfl) (fun _ _ _ h => h) (Or.inl ⟨by rfl, ?_⟩) ?_ ?_
  rotate_left
  · intro w'
    go_simp
    with_reducible rfl
  rotate_left
  · simp only [Act.put, List.setIfInBounds_toArray, List.set_cons_zero, List.set_cons_succ, i64_w, i32_w]
    rfl
  refine one_ (i := 4) (N := some 18) #[true, true, true, true, true, false, false, false] rfl rfl (by kernel_rfl) (by decide) (fun K hK => ?_)
  apply call_e Try.func50 (args := #[.pointer (some ⟨bx, 0, none⟩), .int .i64 1]); (case hname => kernel_rfl); (case hb => rfl); (case hop => rfl); (case hN => rfl); (case hw => rfl); (case hargs => ((try simp only [List.map_toArray, List.map_cons, List.map_nil]); first | done | rfl)); (case hcl => exact number_at (g := bx) (k := 1) (by first | exact HA.out | exact HA.out.any rfl rfl rfl rfl) (by repeat (first | exact Holds.At.here | apply Holds.At.there)) HL.out HC.out (by first | exact pos_le _ _ _ | exact Nat.zero_le _ | omega) (by decide) (HS.out.mono (by simp)) hby.out); rintro e w1 ⟨rfl, HB_⟩; refine ⟨_, rfl, ?_⟩; (clear HA; have HA := Aside0.mk HB_; clear HB_)
  refine hK.out _ _ (by first | exact HA.out.none | exact (HA.out.any rfl rfl rfl rfl).none) (fun hHeld => ?_)
  clear hK K
  refine norm_ (a' := ?_) ?_ ?_
  rotate_left
  · show Act.put _ (some 18) _ = _
    simp only [Act.put, List.setIfInBounds_toArray, List.set_cons_zero, List.set_cons_succ, i64_w, i32_w]
    rfl
  refine one_ (i := 5) (N := some 19) #[true, true, true, true, true, true, false, false] rfl rfl (by kernel_rfl) (by decide) (fun K hK => ?_)
  apply call_e Try.func51 (args := #[.pointer (some ⟨bx, 0, none⟩), .int .i64 (leVal (nxt l0 (pos l0 0 1) 1))]); (case hname => kernel_rfl); (case hb => rfl); (case hop => rfl); (case hN => rfl); (case hw => rfl); (case hargs => ((try simp only [List.map_toArray, List.map_cons, List.map_nil]); first | done | rfl)); (case hcl => exact next_at (by first | exact HA.out | exact HA.out.any rfl rfl rfl rfl) (by repeat (first | exact Holds.At.here | apply Holds.At.there)) HL.out HC.out (by exact pos_le _ _ _) HK1.out.1 HK1.out.2 HS.out); rintro e w1 ⟨A1, d1, rfl, hd1, hs1, HB_⟩; refine ⟨_, rfl, ?_⟩; (clear HA; have HA := Aside0.mk HB_; clear HB_; have HS1 := Aside0.mk hs1; clear hs1 hd1)
  refine hK.out _ _ (by first | exact HA.out.none | exact (HA.out.any rfl rfl rfl rfl).none) (fun hHeld => ?_)
  clear hK K
  refine norm_ (a' := ?_) ?_ ?_
  rotate_left
  · show Act.put _ (some 19) _ = _
    simp only [Act.put, List.setIfInBounds_toArray, List.set_cons_zero, List.set_cons_succ, i64_w, i32_w]
    rfl
  refine take_ (i := 6) (N := some 20) (v := (.string (strOfNums (nxt l0 (pos l0 (pos l0 0 1) 1) (leVal (nxt l0 (pos l0 0 1) 1)).toNat)))) (a' := ?_) #[true, true, true, true, true, true, true, false] rfl rfl (by kernel_rfl) (fun _ _ _ h => h) (Or.inl ⟨by rfl, ?_⟩) (by first | exact HA.out.none | exact (HA.out.any rfl rfl rfl rfl).none) ?_ ?_
  · intro w' s0
    (apply run_text; (case hop => rfl); (case hev => conv => lhs; whnf); (case hv => rfl); (case hs => exact Try.underlying34); (case hd => exact Try.underlying9); (case he => exact Try.underlying5); (case hSr => exact HS1.out); (case hl => (have := nxt_le l0 (pos l0 (pos l0 0 1) 1) (leVal (nxt l0 (pos l0 0 1) 1)).toNat; have := HK1.out; omega)); (case HH => exact s0))
  rotate_left
  · simp only [Act.put, List.setIfInBounds_toArray, List.set_cons_zero, List.set_cons_succ, i64_w, i32_w]
    rfl
  refine pure_ (i := 7) (N := some 6) (v := ?_) (a' := ?_) #[true, true, true, true, true, true, true, true] rfl rfl (by kernel_rfl) (fun _ _ _ h => h) (Or.inl ⟨by rfl, ?_⟩) ?_ ?_
  rotate_left
  · intro w'
    go_simp
    with_reducible rfl
  rotate_left
  · simp only [Act.put, List.setIfInBounds_toArray, List.set_cons_zero, List.set_cons_succ, i64_w, i32_w]
    rfl
  refine done_ (by kernel_rfl) ?_
  go_wp2
  refine start_H (by first | exact HA.out.none | exact (HA.out.any rfl rfl rfl rfl).none) (n := 13) [] #[false, false, false, false, false, false, false, false, false, false, false, false, false] (by kernel_rfl) rfl rfl ?_
  refine pure_ (i := 0) (N := some 21) (v := ?_) (a' := ?_) #[true, false, false, false, false, false, false, false, false, false, false, false, false] rfl rfl (by kernel_rfl) (fun _ _ _ h => h) (Or.inl ⟨by rfl, ?_⟩) ?_ ?_
  rotate_left
  · intro w'
    go_simp
    with_reducible rfl
  rotate_left
  · simp only [Act.put, List.setIfInBounds_toArray, List.set_cons_zero, List.set_cons_succ, i64_w, i32_w]
    rfl
  refine pure_ (i := 1) (N := some 22) (v := ?_) (a' := ?_) #[true, true, false, false, false, false, false, false, false, false, false, false, false] rfl rfl (by kernel_rfl) (fun _ _ _ h => h) (Or.inl ⟨by rfl, ?_⟩) ?_ ?_
  rotate_left
  · intro w'
    go_simp
    with_reducible rfl
  rotate_left
  · simp only [Act.put, List.setIfInBounds_toArray, List.set_cons_zero, List.set_cons_succ, i64_w, i32_w]
    rfl
  refine pure_ (i := 2) (N := some 23) (v := ?_) (a' := ?_) #[true, true, true, false, false, false, false, false, false, false, false, false, false] rfl rfl (by kernel_rfl) (fun _ _ _ h => h) (Or.inl ⟨by rfl, ?_⟩) ?_ ?_
  rotate_left
  · intro w'
    go_simp
    with_reducible rfl
  rotate_left
  · simp only [Act.put, List.setIfInBounds_toArray, List.set_cons_zero, List.set_cons_succ, i64_w, i32_w]
    rfl
  refine pure_ (i := 3) (N := some 24) (v := ?_) (a' := ?_) #[true, true, true, true, false, false, false, false, false, false, false, false, false] rfl rfl (by kernel_rfl) (fun _ _ _ h => h) (Or.inl ⟨by rfl, ?_⟩) ?_ ?_
  rotate_left
  · intro w'
    go_simp
    with_reducible rfl
  rotate_left
  · simp only [Act.put, List.setIfInBounds_toArray, List.set_cons_zero, List.set_cons_succ, i64_w, i32_w]
    rfl
  refine pure_ (i := 4) (N := some 25) (v := ?_) (a' := ?_) #[true, true, true, true, true, false, false, false, false, false, false, false, false] rfl rfl (by kernel_rfl) (fun _ _ _ h => h) (Or.inl ⟨by rfl, ?_⟩) ?_ ?_
  rotate_left
  · intro w'
    go_simp
    with_reducible rfl
  rotate_left
  · simp only [Act.put, List.setIfInBounds_toArray, List.set_cons_zero, List.set_cons_succ, i64_w, i32_w]
    rfl
  refine pure_ (i := 8) (N := some 29) (v := ?_) (a' := ?_) #[true, true, true, true, true, false, false, false, true, false, false, false, false] rfl rfl (by kernel_rfl) (fun _ _ _ h => h) (Or.inl ⟨by rfl, ?_⟩) ?_ ?_
  rotate_left
  · intro w'
    go_simp
    with_reducible rfl
  rotate_left
  · simp only [Act.put, List.setIfInBounds_toArray, List.set_cons_zero, List.set_cons_succ, i64_w, i32_w]
    rfl
  refine pure_ (i := 9) (N := some 30) (v := ?_) (a' := ?_) #[true, true, true, true, true, false, false, false, true, true, false, false, false] rfl rfl (by kernel_rfl) (fun _ _ _ h => h) (Or.inl ⟨by rfl, ?_⟩) ?_ ?_
  rotate_left
  · intro w'
    go_simp
    with_reducible rfl
  rotate_left
  · simp only [Act.put, List.setIfInBounds_toArray, List.set_cons_zero, List.set_cons_succ, i64_w, i32_w]
    rfl
  refine two_ (i := 5) (j := 11) (Ni := some 26) (Nj := some 7) #[true, true, true, true, true, true, false, false, true, true, false, false, false] #[true, true, true, true, true, false, false, false, true, true, false, true, false] rfl rfl rfl rfl (by kernel_rfl) (by decide) (by decide) (fun K hK => ?_) (fun K hK => ?_)
  · skip
    apply call_e Try.func50 (args := #[.pointer (some ⟨bx, 0, none⟩), .int .i64 2]); (case hname => kernel_rfl); (case hb => rfl); (case hop => rfl); (case hN => rfl); (case hw => rfl); (case hargs => ((try simp only [List.map_toArray, List.map_cons, List.map_nil]); first | done | rfl)); (case hcl => exact number_at (g := bx) (k := 2) (by first | exact HA.out | exact HA.out.any rfl rfl rfl rfl) (by repeat (first | exact Holds.At.here | apply Holds.At.there)) HL.out HC.out (by first | exact pos_le _ _ _ | exact Nat.zero_le _ | omega) (by decide) (HS.out.mono (by simp)) hby.out); rintro e w1 ⟨rfl, HB_⟩; refine ⟨_, rfl, ?_⟩; (clear HA; have HA := Aside0.mk HB_; clear HB_)
    refine hK.out _ _ (by first | exact HA.out.none | exact (HA.out.any rfl rfl rfl rfl).none) (fun hHeld => ?_)
    clear hK K
    refine norm_ (a' := ?_) ?_ ?_
    rotate_left
    · show Act.put _ (some 26) _ = _
      simp only [Act.put, List.setIfInBounds_toArray, List.set_cons_zero, List.set_cons_succ, i64_w, i32_w]
      rfl
    refine two_ (i := 6) (j := 11) (Ni := some 27) (Nj := some 7) #[true, true, true, true, true, true, true, false, true, true, false, false, false] #[true, true, true, true, true, true, false, false, true, true, false, true, false] rfl rfl rfl rfl (by kernel_rfl) (by decide) (by decide) (fun K hK => ?_) (fun K hK => ?_)
    · skip
      apply call_e Try.func51 (args := #[.pointer (some ⟨bx, 0, none⟩), .int .i64 (leVal (nxt l0 (pos l0 (pos l0 (pos l0 0 1) 1) (leVal (nxt l0 (pos l0 0 1) 1)).toNat) 2))]); (case hname => kernel_rfl); (case hb => rfl); (case hop => rfl); (case hN => rfl); (case hw => rfl); (case hargs => ((try simp only [List.map_toArray, List.map_cons, List.map_nil]); first | done | rfl)); (case hcl => exact next_at (by first | exact HA.out | exact HA.out.any rfl rfl rfl rfl) (by repeat (first | exact Holds.At.here | apply Holds.At.there)) HL.out HC.out (by exact pos_le _ _ _) HK2.out.1 HK2.out.2 HS.out); rintro e w1 ⟨A2, d2, rfl, hd2, hs2, HB_⟩; refine ⟨_, rfl, ?_⟩; (clear HA; have HA := Aside0.mk HB_; clear HB_; have HS2 := Aside0.mk hs2; clear hs2 hd2)
      refine hK.out _ _ (by first | exact HA.out.none | exact (HA.out.any rfl rfl rfl rfl).none) (fun hHeld => ?_)
      clear hK K
      refine norm_ (a' := ?_) ?_ ?_
      rotate_left
      · show Act.put _ (some 27) _ = _
        simp only [Act.put, List.setIfInBounds_toArray, List.set_cons_zero, List.set_cons_succ, i64_w, i32_w]
        rfl
      refine take_ (i := 7) (N := some 28) (v := (.string (strOfNums (nxt l0 (pos l0 (pos l0 (pos l0 (pos l0 0 1) 1) (leVal (nxt l0 (pos l0 0 1) 1)).toNat) 2) (leVal (nxt l0 (pos l0 (pos l0 (pos l0 0 1) 1) (leVal (nxt l0 (pos l0 0 1) 1)).toNat) 2)).toNat)))) (a' := ?_) #[true, true, true, true, true, true, true, true, true, true, false, false, false] rfl rfl (by kernel_rfl) (fun _ _ _ h => h) (Or.inl ⟨by rfl, ?_⟩) (by first | exact HA.out.none | exact (HA.out.any rfl rfl rfl rfl).none) ?_ ?_
      · intro w' s0
        (apply run_text; (case hop => rfl); (case hev => conv => lhs; whnf); (case hv => rfl); (case hs => exact Try.underlying34); (case hd => exact Try.underlying9); (case he => exact Try.underlying5); (case hSr => exact HS2.out); (case hl => (have := nxt_le l0 (pos l0 (pos l0 (pos l0 (pos l0 0 1) 1) (leVal (nxt l0 (pos l0 0 1) 1)).toNat) 2) (leVal (nxt l0 (pos l0 (pos l0 (pos l0 0 1) 1) (leVal (nxt l0 (pos l0 0 1) 1)).toNat) 2)).toNat; have := HK2.out; omega)); (case HH => exact s0))
      rotate_left
      · simp only [Act.put, List.setIfInBounds_toArray, List.set_cons_zero, List.set_cons_succ, i64_w, i32_w]
        rfl
      refine pure_ (i := 10) (N := some 31) (v := ?_) (a' := ?_) #[true, true, true, true, true, true, true, true, true, true, true, false, false] rfl rfl (by kernel_rfl) (fun _ _ _ h => h) (Or.inl ⟨by rfl, ?_⟩) ?_ ?_
      rotate_left
      · intro w'
        go_simp
        with_reducible rfl
      rotate_left
      · simp only [Act.put, List.setIfInBounds_toArray, List.set_cons_zero, List.set_cons_succ, i64_w, i32_w]
        rfl
      refine one_ (i := 11) (N := some 7) #[true, true, true, true, true, true, true, true, true, true, true, true, false] rfl rfl (by kernel_rfl) (by decide) (fun K hK => ?_)
      apply alloc_e (z := .agg #[.string ⟨#[]⟩, .string ⟨#[]⟩, .bool false]); (case HH => first | exact HA.out | exact HA.out.any rfl rfl rfl rfl); (case hop => rfl); (case hN => rfl); (case hw => rfl); (case hz => kernel_rfl); (case hx => rfl); intro bn w1 HB_; clear HA; have HA := Aside0.mk HB_; clear HB_
      refine hK.out _ _ (by first | exact HA.out.none | exact (HA.out.any rfl rfl rfl rfl).none) (fun hHeld => ?_)
      clear hK K
      refine norm_ (a' := ?_) ?_ ?_
      rotate_left
      · show Act.put _ (some 7) _ = _
        simp only [Act.put, List.setIfInBounds_toArray, List.set_cons_zero, List.set_cons_succ, i64_w, i32_w]
        rfl
      refine one_ (i := 12) (N := none) #[true, true, true, true, true, true, true, true, true, true, true, true, true] rfl rfl (by kernel_rfl) (by decide) (fun K hK => ?_)
      apply store_e; (case HH => first | exact HA.out | exact HA.out.any rfl rfl rfl rfl); (case hop => rfl); (case hN => rfl); (case hw => rfl); (case hx => rfl); (case hev => conv => lhs; whnf); (case hy => rfl); (case hm => repeat (first | exact Holds.At.here | apply Holds.At.there)); (case hl => rfl); (case hn => kernel_rfl); (case h1 => simp [Value.oneCell']); (case hi => simp); intro w1 HB_; simp only [splice, List.set_cons_zero, List.set_cons_succ] at HB_; clear HA; have HA := Aside0.mk HB_; clear HB_
      refine hK.out _ _ (by first | exact HA.out.none | exact (HA.out.any rfl rfl rfl rfl).none) (fun hHeld => ?_)
      clear hK K
      refine done_ (by kernel_rfl) ?_
      go_wp2_with (first     | ((with_reducible apply load1_); (case HH => first | exact HA.out | exact HA.out.any rfl rfl rfl rfl); (case ht => rfl); (case hx => rfl); (case hw => rfl); (case hm => repeat (first | exact List.Mem.head _ | refine List.Mem.tail _ ?_)); (case hv => exact rfl); simp only [Act.put, List.setIfInBounds_toArray, List.set_cons_zero, List.set_cons_succ])     | ((with_reducible apply loadN_ (n := 3)); (case HH => first | exact HA.out | exact HA.out.any rfl rfl rfl rfl); (case ht => rfl); (case hn => decide +kernel); (case hx => rfl); (case hw => rfl); (case hm => repeat (first | exact List.Mem.head _ | refine List.Mem.tail _ ?_)); (case hv => first | (simp only [List.drop_succ_cons, List.drop_zero, List.take_succ_cons, List.take_zero]; rfl) | rfl); (case hl => rfl); simp only [Act.put, List.setIfInBounds_toArray, List.set_cons_zero, List.set_cons_succ])     | ((with_reducible apply box_); (case HH => first | exact HA.out | exact HA.out.any rfl rfl rfl rfl); (case hw => rfl); (case hev => conv => lhs; whnf); (case hy => rfl); intro bx w1 HB_; simp only [Act.put, List.setIfInBounds_toArray, List.set_cons_zero, List.set_cons_succ]; clear HA; have HA := Aside0.mk HB_; clear HB_)     | ((with_reducible apply alloc_ (z := .agg #[.string ⟨#[]⟩, .string ⟨#[]⟩, .bool false])); (case HH => first | exact HA.out | exact HA.out.any rfl rfl rfl rfl); (case hw => rfl); (case hz => kernel_rfl); (case hx => rfl); intro bx w1 HB_; simp only [Act.put, List.setIfInBounds_toArray, List.set_cons_zero, List.set_cons_succ]; clear HA; have HA := Aside0.mk HB_; clear HB_)     | ((with_reducible apply store_); (case HH => first | exact HA.out | exact HA.out.any rfl rfl rfl rfl); (case hw => rfl); (case hx => rfl); (case hev => conv => lhs; whnf); (case hy => rfl); (case hm => repeat (first | exact Holds.At.here | apply Holds.At.there)); (case hl => rfl); (case hn => kernel_rfl); (case h1 => simp [Value.oneCell']); (case hi => simp); intro w1 HB_; simp only [splice, List.set_cons_zero, List.set_cons_succ] at HB_; clear HA; have HA := Aside0.mk HB_; clear HB_)     | (go_at_call 50; (with_reducible apply Calls.mono); (case h => exact number_at (by first | exact HA.out | exact HA.out.any rfl rfl rfl rfl) (by repeat (first | exact Holds.At.here | apply Holds.At.there)) HL.out HC.out (by first | exact pos_le _ _ _ | exact Nat.zero_le _ | omega) (by decide) (HS.out.mono (by simp)) hby.out); rintro e w1 ⟨rfl, HB_⟩; clear HA; have HA := Aside0.mk HB_; clear HB_)     | (go_at_call 52; (with_reducible apply Calls.mono); (case h => exact done_calls _ _ _ _ l0 w _ _ [] (by first | exact HA.out | exact HA.out.any rfl rfl rfl rfl) (by repeat (first | exact List.Mem.head _ | refine List.Mem.tail _ ?_))); rintro e w' ⟨rfl, ⟨nd, rfl⟩⟩)); (apply end_list [.cell 2 32, .tmp 3]; (case hres => rfl); (case hd => rfl); (case hvs => apply vcell (by first | exact HA.out | exact HA.out.any rfl rfl rfl rfl); (case hp => rfl); (case hm => repeat (first | exact List.Mem.head _ | refine List.Mem.tail _ ?_)); (case hag => rfl); (case hi => kernel_rfl); (case hvs => apply Vals.tmp; exact .nil)); (case hl => simp); (case hR => exact ⟨rfl, HA.out.below⟩))
    · skip
      apply alloc_e (z := .agg #[.string ⟨#[]⟩, .string ⟨#[]⟩, .bool false]); (case HH => first | exact HA.out | exact HA.out.any rfl rfl rfl rfl); (case hop => rfl); (case hN => rfl); (case hw => rfl); (case hz => kernel_rfl); (case hx => rfl); intro bn w1 HB_; clear HA; have HA := Aside0.mk HB_; clear HB_
      refine hK.out _ _ (by first | exact HA.out.none | exact (HA.out.any rfl rfl rfl rfl).none) (fun hHeld => ?_)
      clear hK K
      refine norm_ (a' := ?_) ?_ ?_
      rotate_left
      · show Act.put _ (some 7) _ = _
        simp only [Act.put, List.setIfInBounds_toArray, List.set_cons_zero, List.set_cons_succ, i64_w, i32_w]
        rfl
      refine one_ (i := 6) (N := some 27) #[true, true, true, true, true, true, true, false, true, true, false, true, false] rfl rfl (by kernel_rfl) (by decide) (fun K hK => ?_)
      apply call_e Try.func51 (args := #[.pointer (some ⟨bx, 0, none⟩), .int .i64 (leVal (nxt l0 (pos l0 (pos l0 (pos l0 0 1) 1) (leVal (nxt l0 (pos l0 0 1) 1)).toNat) 2))]); (case hname => kernel_rfl); (case hb => rfl); (case hop => rfl); (case hN => rfl); (case hw => rfl); (case hargs => ((try simp only [List.map_toArray, List.map_cons, List.map_nil]); first | done | rfl)); (case hcl => exact next_at (by first | exact HA.out | exact HA.out.any rfl rfl rfl rfl) (by repeat (first | exact Holds.At.here | apply Holds.At.there)) HL.out HC.out (by exact pos_le _ _ _) HK2.out.1 HK2.out.2 HS.out); rintro e w1 ⟨A2, d2, rfl, hd2, hs2, HB_⟩; refine ⟨_, rfl, ?_⟩; (clear HA; have HA := Aside0.mk HB_; clear HB_; have HS2 := Aside0.mk hs2; clear hs2 hd2)
      refine hK.out _ _ (by first | exact HA.out.none | exact (HA.out.any rfl rfl rfl rfl).none) (fun hHeld => ?_)
      clear hK K
      refine norm_ (a' := ?_) ?_ ?_
      rotate_left
      · show Act.put _ (some 27) _ = _
        simp only [Act.put, List.setIfInBounds_toArray, List.set_cons_zero, List.set_cons_succ, i64_w, i32_w]
        rfl
      refine take_ (i := 7) (N := some 28) (v := (.string (strOfNums (nxt l0 (pos l0 (pos l0 (pos l0 (pos l0 0 1) 1) (leVal (nxt l0 (pos l0 0 1) 1)).toNat) 2) (leVal (nxt l0 (pos l0 (pos l0 (pos l0 0 1) 1) (leVal (nxt l0 (pos l0 0 1) 1)).toNat) 2)).toNat)))) (a' := ?_) #[true, true, true, true, true, true, true, true, true, true, false, true, false] rfl rfl (by kernel_rfl) (fun _ _ _ h => h) (Or.inl ⟨by rfl, ?_⟩) (by first | exact HA.out.none | exact (HA.out.any rfl rfl rfl rfl).none) ?_ ?_
      · intro w' s0
        (apply run_text; (case hop => rfl); (case hev => conv => lhs; whnf); (case hv => rfl); (case hs => exact Try.underlying34); (case hd => exact Try.underlying9); (case he => exact Try.underlying5); (case hSr => exact HS2.out); (case hl => (have := nxt_le l0 (pos l0 (pos l0 (pos l0 (pos l0 0 1) 1) (leVal (nxt l0 (pos l0 0 1) 1)).toNat) 2) (leVal (nxt l0 (pos l0 (pos l0 (pos l0 0 1) 1) (leVal (nxt l0 (pos l0 0 1) 1)).toNat) 2)).toNat; have := HK2.out; omega)); (case HH => exact s0))
      rotate_left
      · simp only [Act.put, List.setIfInBounds_toArray, List.set_cons_zero, List.set_cons_succ, i64_w, i32_w]
        rfl
      refine pure_ (i := 10) (N := some 31) (v := ?_) (a' := ?_) #[true, true, true, true, true, true, true, true, true, true, true, true, false] rfl rfl (by kernel_rfl) (fun _ _ _ h => h) (Or.inl ⟨by rfl, ?_⟩) ?_ ?_
      rotate_left
      · intro w'
        go_simp
        with_reducible rfl
      rotate_left
      · simp only [Act.put, List.setIfInBounds_toArray, List.set_cons_zero, List.set_cons_succ, i64_w, i32_w]
        rfl
      refine one_ (i := 12) (N := none) #[true, true, true, true, true, true, true, true, true, true, true, true, true] rfl rfl (by kernel_rfl) (by decide) (fun K hK => ?_)
      apply store_e; (case HH => first | exact HA.out | exact HA.out.any rfl rfl rfl rfl); (case hop => rfl); (case hN => rfl); (case hw => rfl); (case hx => rfl); (case hev => conv => lhs; whnf); (case hy => rfl); (case hm => repeat (first | exact Holds.At.here | apply Holds.At.there)); (case hl => rfl); (case hn => kernel_rfl); (case h1 => simp [Value.oneCell']); (case hi => simp); intro w1 HB_; simp only [splice, List.set_cons_zero, List.set_cons_succ] at HB_; clear HA; have HA := Aside0.mk HB_; clear HB_
      refine hK.out _ _ (by first | exact HA.out.none | exact (HA.out.any rfl rfl rfl rfl).none) (fun hHeld => ?_)
      clear hK K
      refine done_ (by kernel_rfl) ?_
      go_wp2_with (first     | ((with_reducible apply load1_); (case HH => first | exact HA.out | exact HA.out.any rfl rfl rfl rfl); (case ht => rfl); (case hx => rfl); (case hw => rfl); (case hm => repeat (first | exact List.Mem.head _ | refine List.Mem.tail _ ?_)); (case hv => exact rfl); simp only [Act.put, List.setIfInBounds_toArray, List.set_cons_zero, List.set_cons_succ])     | ((with_reducible apply loadN_ (n := 3)); (case HH => first | exact HA.out | exact HA.out.any rfl rfl rfl rfl); (case ht => rfl); (case hn => decide +kernel); (case hx => rfl); (case hw => rfl); (case hm => repeat (first | exact List.Mem.head _ | refine List.Mem.tail _ ?_)); (case hv => first | (simp only [List.drop_succ_cons, List.drop_zero, List.take_succ_cons, List.take_zero]; rfl) | rfl); (case hl => rfl); simp only [Act.put, List.setIfInBounds_toArray, List.set_cons_zero, List.set_cons_succ])     | ((with_reducible apply box_); (case HH => first | exact HA.out | exact HA.out.any rfl rfl rfl rfl); (case hw => rfl); (case hev => conv => lhs; whnf); (case hy => rfl); intro bx w1 HB_; simp only [Act.put, List.setIfInBounds_toArray, List.set_cons_zero, List.set_cons_succ]; clear HA; have HA := Aside0.mk HB_; clear HB_)     | ((with_reducible apply alloc_ (z := .agg #[.string ⟨#[]⟩, .string ⟨#[]⟩, .bool false])); (case HH => first | exact HA.out | exact HA.out.any rfl rfl rfl rfl); (case hw => rfl); (case hz => kernel_rfl); (case hx => rfl); intro bx w1 HB_; simp only [Act.put, List.setIfInBounds_toArray, List.set_cons_zero, List.set_cons_succ]; clear HA; have HA := Aside0.mk HB_; clear HB_)     | ((with_reducible apply store_); (case HH => first | exact HA.out | exact HA.out.any rfl rfl rfl rfl); (case hw => rfl); (case hx => rfl); (case hev => conv => lhs; whnf); (case hy => rfl); (case hm => repeat (first | exact Holds.At.here | apply Holds.At.there)); (case hl => rfl); (case hn => kernel_rfl); (case h1 => simp [Value.oneCell']); (case hi => simp); intro w1 HB_; simp only [splice, List.set_cons_zero, List.set_cons_succ] at HB_; clear HA; have HA := Aside0.mk HB_; clear HB_)     | (go_at_call 50; (with_reducible apply Calls.mono); (case h => exact number_at (by first | exact HA.out | exact HA.out.any rfl rfl rfl rfl) (by repeat (first | exact Holds.At.here | apply Holds.At.there)) HL.out HC.out (by first | exact pos_le _ _ _ | exact Nat.zero_le _ | omega) (by decide) (HS.out.mono (by simp)) hby.out); rintro e w1 ⟨rfl, HB_⟩; clear HA; have HA := Aside0.mk HB_; clear HB_)     | (go_at_call 52; (with_reducible apply Calls.mono); (case h => exact done_calls _ _ _ _ l0 w _ _ [] (by first | exact HA.out | exact HA.out.any rfl rfl rfl rfl) (by repeat (first | exact List.Mem.head _ | refine List.Mem.tail _ ?_))); rintro e w' ⟨rfl, ⟨nd, rfl⟩⟩)); (apply end_list [.cell 2 32, .tmp 3]; (case hres => rfl); (case hd => rfl); (case hvs => apply vcell (by first | exact HA.out | exact HA.out.any rfl rfl rfl rfl); (case hp => rfl); (case hm => repeat (first | exact List.Mem.head _ | refine List.Mem.tail _ ?_)); (case hag => rfl); (case hi => kernel_rfl); (case hvs => apply Vals.tmp; exact .nil)); (case hl => simp); (case hR => exact ⟨rfl, HA.out.below⟩))
  · skip
    apply alloc_e (z := .agg #[.string ⟨#[]⟩, .string ⟨#[]⟩, .bool false]); (case HH => first | exact HA.out | exact HA.out.any rfl rfl rfl rfl); (case hop => rfl); (case hN => rfl); (case hw => rfl); (case hz => kernel_rfl); (case hx => rfl); intro bn w1 HB_; clear HA; have HA := Aside0.mk HB_; clear HB_
    refine hK.out _ _ (by first | exact HA.out.none | exact (HA.out.any rfl rfl rfl rfl).none) (fun hHeld => ?_)
    clear hK K
    refine norm_ (a' := ?_) ?_ ?_
    rotate_left
    · show Act.put _ (some 7) _ = _
      simp only [Act.put, List.setIfInBounds_toArray, List.set_cons_zero, List.set_cons_succ, i64_w, i32_w]
      rfl
    refine one_ (i := 5) (N := some 26) #[true, true, true, true, true, true, false, false, true, true, false, true, false] rfl rfl (by kernel_rfl) (by decide) (fun K hK => ?_)
    apply call_e Try.func50 (args := #[.pointer (some ⟨bx, 0, none⟩), .int .i64 2]); (case hname => kernel_rfl); (case hb => rfl); (case hop => rfl); (case hN => rfl); (case hw => rfl); (case hargs => ((try simp only [List.map_toArray, List.map_cons, List.map_nil]); first | done | rfl)); (case hcl => exact number_at (g := bx) (k := 2) (by first | exact HA.out | exact HA.out.any rfl rfl rfl rfl) (by repeat (first | exact Holds.At.here | apply Holds.At.there)) HL.out HC.out (by first | exact pos_le _ _ _ | exact Nat.zero_le _ | omega) (by decide) (HS.out.mono (by simp)) hby.out); rintro e w1 ⟨rfl, HB_⟩; refine ⟨_, rfl, ?_⟩; (clear HA; have HA := Aside0.mk HB_; clear HB_)
    refine hK.out _ _ (by first | exact HA.out.none | exact (HA.out.any rfl rfl rfl rfl).none) (fun hHeld => ?_)
    clear hK K
    refine norm_ (a' := ?_) ?_ ?_
    rotate_left
    · show Act.put _ (some 26) _ = _
      simp only [Act.put, List.setIfInBounds_toArray, List.set_cons_zero, List.set_cons_succ, i64_w, i32_w]
      rfl
    refine one_ (i := 6) (N := some 27) #[true, true, true, true, true, true, true, false, true, true, false, true, false] rfl rfl (by kernel_rfl) (by decide) (fun K hK => ?_)
    apply call_e Try.func51 (args := #[.pointer (some ⟨bx, 0, none⟩), .int .i64 (leVal (nxt l0 (pos l0 (pos l0 (pos l0 0 1) 1) (leVal (nxt l0 (pos l0 0 1) 1)).toNat) 2))]); (case hname => kernel_rfl); (case hb => rfl); (case hop => rfl); (case hN => rfl); (case hw => rfl); (case hargs => ((try simp only [List.map_toArray, List.map_cons, List.map_nil]); first | done | rfl)); (case hcl => exact next_at (by first | exact HA.out | exact HA.out.any rfl rfl rfl rfl) (by repeat (first | exact Holds.At.here | apply Holds.At.there)) HL.out HC.out (by exact pos_le _ _ _) HK2.out.1 HK2.out.2 HS.out); rintro e w1 ⟨A2, d2, rfl, hd2, hs2, HB_⟩; refine ⟨_, rfl, ?_⟩; (clear HA; have HA := Aside0.mk HB_; clear HB_; have HS2 := Aside0.mk hs2; clear hs2 hd2)
    refine hK.out _ _ (by first | exact HA.out.none | exact (HA.out.any rfl rfl rfl rfl).none) (fun hHeld => ?_)
    clear hK K
    refine norm_ (a' := ?_) ?_ ?_
    rotate_left
    · show Act.put _ (some 27) _ = _
      simp only [Act.put, List.setIfInBounds_toArray, List.set_cons_zero, List.set_cons_succ, i64_w, i32_w]
      rfl
    refine take_ (i := 7) (N := some 28) (v := (.string (strOfNums (nxt l0 (pos l0 (pos l0 (pos l0 (pos l0 0 1) 1) (leVal (nxt l0 (pos l0 0 1) 1)).toNat) 2) (leVal (nxt l0 (pos l0 (pos l0 (pos l0 0 1) 1) (leVal (nxt l0 (pos l0 0 1) 1)).toNat) 2)).toNat)))) (a' := ?_) #[true, true, true, true, true, true, true, true, true, true, false, true, false] rfl rfl (by kernel_rfl) (fun _ _ _ h => h) (Or.inl ⟨by rfl, ?_⟩) (by first | exact HA.out.none | exact (HA.out.any rfl rfl rfl rfl).none) ?_ ?_
    · intro w' s0
      (apply run_text; (case hop => rfl); (case hev => conv => lhs; whnf); (case hv => rfl); (case hs => exact Try.underlying34); (case hd => exact Try.underlying9); (case he => exact Try.underlying5); (case hSr => exact HS2.out); (case hl => (have := nxt_le l0 (pos l0 (pos l0 (pos l0 (pos l0 0 1) 1) (leVal (nxt l0 (pos l0 0 1) 1)).toNat) 2) (leVal (nxt l0 (pos l0 (pos l0 (pos l0 0 1) 1) (leVal (nxt l0 (pos l0 0 1) 1)).toNat) 2)).toNat; have := HK2.out; omega)); (case HH => exact s0))
    rotate_left
    · simp only [Act.put, List.setIfInBounds_toArray, List.set_cons_zero, List.set_cons_succ, i64_w, i32_w]
      rfl
    refine pure_ (i := 10) (N := some 31) (v := ?_) (a' := ?_) #[true, true, true, true, true, true, true, true, true, true, true, true, false] rfl rfl (by kernel_rfl) (fun _ _ _ h => h) (Or.inl ⟨by rfl, ?_⟩) ?_ ?_
    rotate_left
    · intro w'
      go_simp
      with_reducible rfl
    rotate_left
    · simp only [Act.put, List.setIfInBounds_toArray, List.set_cons_zero, List.set_cons_succ, i64_w, i32_w]
      rfl
    refine one_ (i := 12) (N := none) #[true, true, true, true, true, true, true, true, true, true, true, true, true] rfl rfl (by kernel_rfl) (by decide) (fun K hK => ?_)
    apply store_e; (case HH => first | exact HA.out | exact HA.out.any rfl rfl rfl rfl); (case hop => rfl); (case hN => rfl); (case hw => rfl); (case hx => rfl); (case hev => conv => lhs; whnf); (case hy => rfl); (case hm => repeat (first | exact Holds.At.here | apply Holds.At.there)); (case hl => rfl); (case hn => kernel_rfl); (case h1 => simp [Value.oneCell']); (case hi => simp); intro w1 HB_; simp only [splice, List.set_cons_zero, List.set_cons_succ] at HB_; clear HA; have HA := Aside0.mk HB_; clear HB_
    refine hK.out _ _ (by first | exact HA.out.none | exact (HA.out.any rfl rfl rfl rfl).none) (fun hHeld => ?_)
    clear hK K
    refine done_ (by kernel_rfl) ?_
    go_wp2_with (first     | ((with_reducible apply load1_); (case HH => first | exact HA.out | exact HA.out.any rfl rfl rfl rfl); (case ht => rfl); (case hx => rfl); (case hw => rfl); (case hm => repeat (first | exact List.Mem.head _ | refine List.Mem.tail _ ?_)); (case hv => exact rfl); simp only [Act.put, List.setIfInBounds_toArray, List.set_cons_zero, List.set_cons_succ])     | ((with_reducible apply loadN_ (n := 3)); (case HH => first | exact HA.out | exact HA.out.any rfl rfl rfl rfl); (case ht => rfl); (case hn => decide +kernel); (case hx => rfl); (case hw => rfl); (case hm => repeat (first | exact List.Mem.head _ | refine List.Mem.tail _ ?_)); (case hv => first | (simp only [List.drop_succ_cons, List.drop_zero, List.take_succ_cons, List.take_zero]; rfl) | rfl); (case hl => rfl); simp only [Act.put, List.setIfInBounds_toArray, List.set_cons_zero, List.set_cons_succ])     | ((with_reducible apply box_); (case HH => first | exact HA.out | exact HA.out.any rfl rfl rfl rfl); (case hw => rfl); (case hev => conv => lhs; whnf); (case hy => rfl); intro bx w1 HB_; simp only [Act.put, List.setIfInBounds_toArray, List.set_cons_zero, List.set_cons_succ]; clear HA; have HA := Aside0.mk HB_; clear HB_)     | ((with_reducible apply alloc_ (z := .agg #[.string ⟨#[]⟩, .string ⟨#[]⟩, .bool false])); (case HH => first | exact HA.out | exact HA.out.any rfl rfl rfl rfl); (case hw => rfl); (case hz => kernel_rfl); (case hx => rfl); intro bx w1 HB_; simp only [Act.put, List.setIfInBounds_toArray, List.set_cons_zero, List.set_cons_succ]; clear HA; have HA := Aside0.mk HB_; clear HB_)     | ((with_reducible apply store_); (case HH => first | exact HA.out | exact HA.out.any rfl rfl rfl rfl); (case hw => rfl); (case hx => rfl); (case hev => conv => lhs; whnf); (case hy => rfl); (case hm => repeat (first | exact Holds.At.here | apply Holds.At.there)); (case hl => rfl); (case hn => kernel_rfl); (case h1 => simp [Value.oneCell']); (case hi => simp); intro w1 HB_; simp only [splice, List.set_cons_zero, List.set_cons_succ] at HB_; clear HA; have HA := Aside0.mk HB_; clear HB_)     | (go_at_call 50; (with_reducible apply Calls.mono); (case h => exact number_at (by first | exact HA.out | exact HA.out.any rfl rfl rfl rfl) (by repeat (first | exact Holds.At.here | apply Holds.At.there)) HL.out HC.out (by first | exact pos_le _ _ _ | exact Nat.zero_le _ | omega) (by decide) (HS.out.mono (by simp)) hby.out); rintro e w1 ⟨rfl, HB_⟩; clear HA; have HA := Aside0.mk HB_; clear HB_)     | (go_at_call 52; (with_reducible apply Calls.mono); (case h => exact done_calls _ _ _ _ l0 w _ _ [] (by first | exact HA.out | exact HA.out.any rfl rfl rfl rfl) (by repeat (first | exact List.Mem.head _ | refine List.Mem.tail _ ?_))); rintro e w' ⟨rfl, ⟨nd, rfl⟩⟩)); (apply end_list [.cell 2 32, .tmp 3]; (case hres => rfl); (case hd => rfl); (case hvs => apply vcell (by first | exact HA.out | exact HA.out.any rfl rfl rfl rfl); (case hp => rfl); (case hm => repeat (first | exact List.Mem.head _ | refine List.Mem.tail _ ?_)); (case hag => rfl); (case hi => kernel_rfl); (case hvs => apply Vals.tmp; exact .nil)); (case hl => simp); (case hR => exact ⟨rfl, HA.out.below⟩))
set_option maxHeartbeats 8000000 in
set_option maxRecDepth 100000 in
theorem unpack_d2 (A0 : Option Addr) (c0 : Nat) (l0 : List Int) (w : World) (hr0 : Kd.C (Kd.int .u8) w A0 l0.length l0) (hc0 : l0.length ≤ c0) (hl : l0.length ≤ 281474976710656) (hb : Bytes l0) (f0 : (leVal (nxt l0 0 1) == 1) = false) (f1 : (leVal (nxt l0 0 1) != 1) = true) (f2 : (leVal (nxt l0 0 1) == 2) = true) (f3 : (leVal (nxt l0 0 1) != 2) = false) (f4 : ((((pos l0 (pos l0 (pos l0 (pos l0 (pos l0 0 1) 1) (leVal (nxt l0 (pos l0 0 1) 1)).toNat) 2) (leVal (nxt l0 (pos l0 (pos l0 (pos l0 0 1) 1) (leVal (nxt l0 (pos l0 0 1) 1)).toNat) 2)).toNat) : Nat) : Int) == (l0.length : Int)) = false) :
    Calls Try.prog 26 #[.slice A0 l0.length c0] w fun e w' => e = .returned (.tuple #[.agg #[.string ⟨#[]⟩, .string ⟨#[]⟩, .bool false], .bool false]) ∧ Below w.heap.size w w' := by
  have HS : Aside0 (Src (Value.int .u8) w [] A0 l0) := Aside0.mk (Src.of_C (h1 := fun _ => rfl) hr0)
  have HL := Aside0.mk hl
  have hby := Aside0.mk hb
  have HC := Aside0.mk hc0
  have HA := Aside0.mk (Holds.start w)
  have HK1 := Aside0.mk (show (leVal (nxt l0 (pos l0 0 1) 1)).toNat ≤ 1048576 ∧ leVal (nxt l0 (pos l0 0 1) 1) = ((leVal (nxt l0 (pos l0 0 1) 1)).toNat : Int) from by have := leVal_small (hb.nxt (pos l0 0 1) 1) (nxt_le l0 _ 1); omega)
  have HK2 := Aside0.mk (show (leVal (nxt l0 (pos l0 (pos l0 (pos l0 0 1) 1) (leVal (nxt l0 (pos l0 0 1) 1)).toNat) 2)).toNat ≤ 1048576 ∧ leVal (nxt l0 (pos l0 (pos l0 (pos l0 0 1) 1) (leVal (nxt l0 (pos l0 0 1) 1)).toNat) 2) = ((leVal (nxt l0 (pos l0 (pos l0 (pos l0 0 1) 1) (leVal (nxt l0 (pos l0 0 1) 1)).toNat) 2)).toNat : Int) from by have := leVal_small2 (hb.nxt (pos l0 (pos l0 (pos l0 0 1) 1) (leVal (nxt l0 (pos l0 0 1) 1)).toNat) 2) (nxt_le l0 _ 2); omega)
  clear hr0 hl hb hc0
  go_enter Try.func26, Try.ntmps26
  go_wp2_with (first
    | ((with_reducible apply load1_); (case HH => first | exact HA.out | exact HA.out.any rfl rfl rfl rfl); (case ht => rfl); (case hx => rfl); (case hw => rfl); (case hm => repeat (first | exact List.Mem.head _ | refine List.Mem.tail _ ?_)); (case hv => exact rfl); simp only [Act.put, List.setIfInBounds_toArray, List.set_cons_zero, List.set_cons_succ])
    | ((with_reducible apply loadN_ (n := 3)); (case HH => first | exact HA.out | exact HA.out.any rfl rfl rfl rfl); (case ht => rfl); (case hn => decide +kernel); (case hx => rfl); (case hw => rfl); (case hm => repeat (first | exact List.Mem.head _ | refine List.Mem.tail _ ?_)); (case hv => first | (simp only [List.drop_succ_cons, List.drop_zero, List.take_succ_cons, List.take_zero]; rfl) | rfl); (case hl => rfl); simp only [Act.put, List.setIfInBounds_toArray, List.set_cons_zero, List.set_cons_succ])
    | ((with_reducible apply box_); (case HH => first | exact HA.out | exact HA.out.any rfl rfl rfl rfl); (case hw => rfl); (case hev => conv => lhs; whnf); (case hy => rfl); intro bx w1 HB_; simp only [Act.put, List.setIfInBounds_toArray, List.set_cons_zero, List.set_cons_succ]; clear HA; have HA := Aside0.mk HB_; clear HB_)
    | ((with_reducible apply alloc_ (z := .agg #[.string ⟨#[]⟩, .string ⟨#[]⟩, .bool false])); (case HH => first | exact HA.out | exact HA.out.any rfl rfl rfl rfl); (case hw => rfl); (case hz => kernel_rfl); (case hx => rfl); intro bx w1 HB_; simp only [Act.put, List.setIfInBounds_toArray, List.set_cons_zero, List.set_cons_succ]; clear HA; have HA := Aside0.mk HB_; clear HB_)
    | ((with_reducible apply store_); (case HH => first | exact HA.out | exact HA.out.any rfl rfl rfl rfl); (case hw => rfl); (case hx => rfl); (case hev => conv => lhs; whnf); (case hy => rfl); (case hm => repeat (first | exact Holds.At.here | apply Holds.At.there)); (case hl => rfl); (case hn => kernel_rfl); (case h1 => simp [Value.oneCell']); (case hi => simp); intro w1 HB_; simp only [splice, List.set_cons_zero, List.set_cons_succ] at HB_; clear HA; have HA := Aside0.mk HB_; clear HB_)
    | (go_at_call 50; (with_reducible apply Calls.mono); (case h => exact number_at (by first | exact HA.out | exact HA.out.any rfl rfl rfl rfl) (by repeat (first | exact Holds.At.here | apply Holds.At.there)) HL.out HC.out (by first | exact pos_le _ _ _ | exact Nat.zero_le _ | omega) (by decide) (HS.out.mono (by simp)) hby.out); rintro e w1 ⟨rfl, HB_⟩; clear HA; have HA := Aside0.mk HB_; clear HB_)
    | (go_at_call 52; (with_reducible apply Calls.mono); (case h => exact done_calls _ _ _ _ l0 w _ _ [] (by first | exact HA.out | exact HA.out.any rfl rfl rfl rfl) (by repeat (first | exact List.Mem.head _ | refine List.Mem.tail _ ?_))); rintro e w' ⟨rfl, ⟨nd, rfl⟩⟩))
  refine start_H (by first | exact HA.out.none | exact (HA.out.any rfl rfl rfl rfl).none) (n := 8) [] #[false, false, false, false, false, false, false, false] (by kernel_rfl) rfl rfl ?_
  refine pure_ (i := 0) (N := some 14) (v := ?_) (a' := ?_) #[true, false, false, false, false, false, false, false] rfl rfl (by kernel_rfl) (fun _ _ _ h => h) (Or.inl ⟨by rfl, ?_⟩) ?_ ?_
  rotate_left
  · intro w'
    go_simp
    with_reducible rfl
  rotate_left
  · simp only [Act.put, List.setIfInBounds_toArray, List.set_cons_zero, List.set_cons_succ, i64_w, i32_w]
    rfl
  refine pure_ (i := 1) (N := some 15) (v := ?_) (a' := ?_) #[true, true, false, false, false, false, false, false] rfl rfl (by kernel_rfl) (fun _ _ _ h => h) (Or.inl ⟨by rfl, ?_⟩) ?_ ?_
  rotate_left
  · intro w'
    go_simp
    with_reducible rfl
  rotate_left
  · simp only [Act.put, List.setIfInBounds_toArray, List.set_cons_zero, List.set_cons_succ, i64_w, i32_w]
    rfl
  refine pure_ (i := 2) (N := some 16) (v := ?_) (a' := ?_) #[true, true, true, false, false, false, false, false] rfl rfl (by kernel_rfl) (fun _ _ _ h => h) (Or.inl ⟨by rfl, ?_⟩) ?_ ?_
  rotate_left
  · intro w'
    go_simp
    with_reducible rfl
  rotate_left
  · simp only [Act.put, List.setIfInBounds_toArray, List.set_cons_zero, List.set_cons_succ, i64_w, i32_w]
    rfl
  refine pure_ (i := 3) (N := some 17) (v := ?_) (a' := ?_) #[true, true, true, true, false, false, false, false] rfl rfl (by kernel_rfl) (fun _ _ _ h => h) (Or.inl ⟨by rfl, ?_⟩) ?_ ?_
  rotate_left
  · intro w'
    go_simp
    with_reducible rfl
  rotate_left
  · simp only [Act.put, List.setIfInBounds_toArray, List.set_cons_zero, List.set_cons_succ, i64_w, i32_w]
    rfl
  refine one_ (i := 4) (N := some 18) #[true, true, true, true, true, false, false, false] rfl rfl (by kernel_rfl) (by decide) (fun K hK => ?_)
  apply call_e Try.func50 (args := #[.pointer (some ⟨bx, 0, none⟩), .int .i64 1]); (case hname => kernel_rfl); (case hb => rfl); (case hop => rfl); (case hN => rfl); (case hw => rfl); (case hargs => ((try simp only [List.map_toArray, List.map_cons, List.map_nil]); first | done | rfl)); (case hcl => exact number_at (g := bx) (k := 1) (by first | exact HA.out | exact HA.out.any rfl rfl rfl rfl) (by repeat (first | exact Holds.At.here | apply Holds.At.there)) HL.out HC.out (by first | exact pos_le _ _ _ | exact Nat.zero_le _ | omega) (by decide) (HS.out.mono (by simp)) hby.out); rintro e w1 ⟨rfl, HB_⟩; refine ⟨_, rfl, ?_⟩; (clear HA; have HA := Aside0.mk HB_; clear HB_)
  refine hK.out _ _ (by first | exact HA.out.none | exact (HA.out.any rfl rfl rfl rfl).none) (fun hHeld => ?_)
  clear hK K
  refine norm_ (a' := ?_) ?_ ?_
  rotate_left
  · show Act.put _ (some 18) _ = _
    simp only [Act.put, List.setIfInBounds_toArray, List.set_cons_zero, List.set_cons_succ, i64_w, i32_w]
    rfl
  refine one_ (i := 5) (N := some 19) #[true, true, true, true, true, true, false, false] rfl rfl (by kernel_rfl) (by decide) (fun K hK => ?_)
  apply call_e Try.func51 (args := #[.pointer (some ⟨bx, 0, none⟩), .int .i64 (leVal (nxt l0 (pos l0 0 1) 1))]); (case hname => kernel_rfl); (case hb => rfl); (case hop => rfl); (case hN => rfl); (case hw => rfl); (case hargs => ((try simp only [List.map_toArray, List.map_cons, List.map_nil]); first | done | rfl)); (case hcl => exact next_at (by first | exact HA.out | exact HA.out.any rfl rfl rfl rfl) (by repeat (first | exact Holds.At.here | apply Holds.At.there)) HL.out HC.out (by exact pos_le _ _ _) HK1.out.1 HK1.out.2 HS.out); rintro e w1 ⟨A1, d1, rfl, hd1, hs1, HB_⟩; refine ⟨_, rfl, ?_⟩; (clear HA; have HA := Aside0.mk HB_; clear HB_; have HS1 := Aside0.mk hs1; clear hs1 hd1)
  refine hK.out _ _ (by first | exact HA.out.none | exact (HA.out.any rfl rfl rfl rfl).none) (fun hHeld => ?_)
  clear hK K
  refine norm_ (a' := ?_) ?_ ?_
  rotate_left
  · show Act.put _ (some 19) _ = _
    simp only [Act.put, List.setIfInBounds_toArray, List.set_cons_zero, List.set_cons_succ, i64_w, i32_w]
    rfl
  refine take_ (i := 6) (N := some 20) (v := (.string (strOfNums (nxt l0 (pos l0 (pos l0 0 1) 1) (leVal (nxt l0 (pos l0 0 1) 1)).toNat)))) (a' := ?_) #[true, true, true, true, true, true, true, false] rfl rfl (by kernel_rfl) (fun _ _ _ h => h) (Or.inl ⟨by rfl, ?_⟩) (by first | exact HA.out.none | exact (HA.out.any rfl rfl rfl rfl).none) ?_ ?_
  · intro w' s0
    (apply run_text; (case hop => rfl); (case hev => conv => lhs; whnf); (case hv => rfl); (case hs => exact Try.underlying34); (case hd => exact Try.underlying9); (case he => exact Try.underlying5); (case hSr => exact HS1.out); (case hl => (have := nxt_le l0 (pos l0 (pos l0 0 1) 1) (leVal (nxt l0 (pos l0 0 1) 1)).toNat; have := HK1.out; omega)); (case HH => exact s0))
  rotate_left
  · simp only [Act.put, List.setIfInBounds_toArray, List.set_cons_zero, List.set_cons_succ, i64_w, i32_w]
    rfl
  refine pure_ (i := 7) (N := some 6) (v := ?_) (a' := ?_) #[true, true, true, true, true, true, true, true] rfl rfl (by kernel_rfl) (fun _ _ _ h => h) (Or.inl ⟨by rfl, ?_⟩) ?_ ?_
  rotate_left
  · intro w'
    go_simp
    with_reducible rfl
  rotate_left
  · simp only [Act.put, List.setIfInBounds_toArray, List.set_cons_zero, List.set_cons_succ, i64_w, i32_w]
    rfl
  refine done_ (by kernel_rfl) ?_
  go_wp2
  refine start_H (by first | exact HA.out.none | exact (HA.out.any rfl rfl rfl rfl).none) (n := 13) [] #[false, false, false, false, false, false, false, false, false, false, false, false, false] (by kernel_rfl) rfl rfl ?_
  refine pure_ (i := 0) (N := some 21) (v := ?_) (a' := ?_) #[true, false, false, false, false, false, false, false, false, false, false, false, false] rfl rfl (by kernel_rfl) (fun _ _ _ h => h) (Or.inl ⟨by rfl, ?_⟩) ?_ ?_
  rotate_left
  · intro w'
    go_simp
    with_reducible rfl
  rotate_left
  · simp only [Act.put, List.setIfInBounds_toArray, List.set_cons_zero, List.set_cons_succ, i64_w, i32_w]
    rfl
  refine pure_ (i := 1) (N := some 22) (v := ?_) (a' := ?_) #[true, true, false, false, false, false, false, false, false, false, false, false, false] rfl rfl (by kernel_rfl) (fun _ _ _ h => h) (Or.inl ⟨by rfl, ?_⟩) ?_ ?_
  rotate_left
  · intro w'
    go_simp
    with_reducible rfl
  rotate_left
  · simp only [Act.put, List.setIfInBounds_toArray, List.set_cons_zero, List.set_cons_succ, i64_w, i32_w]
    rfl
  refine pure_ (i := 2) (N := some 23) (v := ?_) (a' := ?_) #[true, true, true, false, false, false, false, false, false, false, false, false, false] rfl rfl (by kernel_rfl) (fun _ _ _ h => h) (Or.inl ⟨by rfl, ?_⟩) ?_ ?_
  rotate_left
  · intro w'
    go_simp
    with_reducible rfl
  rotate_left
  · simp only [Act.put, List.setIfInBounds_toArray, List.set_cons_zero, List.set_cons_succ, i64_w, i32_w]
    rfl
  refine pure_ (i := 3) (N := some 24) (v := ?_) (a' := ?_) #[true, true, true, true, false, false, false, false, false, false, false, false, false] rfl rfl (by kernel_rfl) (fun _ _ _ h => h) (Or.inl ⟨by rfl, ?_⟩) ?_ ?_
  rotate_left
  · intro w'
    go_simp
    with_reducible rfl
  rotate_left
  · simp only [Act.put, List.setIfInBounds_toArray, List.set_cons_zero, List.set_cons_succ, i64_w, i32_w]
    rfl
  refine pure_ (i := 4) (N := some 25) (v := ?_) (a' := ?_) #[true, true, true, true, true, false, false, false, false, false, false, false, false] rfl rfl (by kernel_rfl) (fun _ _ _ h => h) (Or.inl ⟨by rfl, ?_⟩) ?_ ?_
  rotate_left
  · intro w'
    go_simp
    with_reducible rfl
  rotate_left
  · simp only [Act.put, List.setIfInBounds_toArray, List.set_cons_zero, List.set_cons_succ, i64_w, i32_w]
    rfl
  refine pure_ (i := 8) (N := some 29) (v := ?_) (a' := ?_) #[true, true, true, true, true, false, false, false, true, false, false, false, false] rfl rfl (by kernel_rfl) (fun _ _ _ h => h) (Or.inl ⟨by rfl, ?_⟩) ?_ ?_
  rotate_left
  · intro w'
    go_simp
    with_reducible rfl
  rotate_left
  · simp only [Act.put, List.setIfInBounds_toArray, List.set_cons_zero, List.set_cons_succ, i64_w, i32_w]
    rfl
  refine pure_ (i := 9) (N := some 30) (v := ?_) (a' := ?_) #[true, true, true, true, true, false, false, false, true, true, false, false, false] rfl rfl (by kernel_rfl) (fun _ _ _ h => h) (Or.inl ⟨by rfl, ?_⟩) ?_ ?_
  rotate_left
  · intro w'
    go_simp
    with_reducible rfl
  rotate_left
  · simp only [Act.put, List.setIfInBounds_toArray, List.set_cons_zero, List.set_cons_succ, i64_w, i32_w]
    rfl
  refine two_ (i := 5) (j := 11) (Ni := some 26) (Nj := some 7) #[true, true, true, true, true, true, false, false, true, true, false, false, false] #[true, true, true, true, true, false, false, false, true, true, false, true, false] rfl rfl rfl rfl (by kernel_rfl) (by decide) (by decide) (fun K hK => ?_) (fun K hK => ?_)
  · skip
    apply call_e Try.func50 (args := #[.pointer (some ⟨bx, 0, none⟩), .int .i64 2]); (case hname => kernel_rfl); (case hb => rfl); (case hop => rfl); (case hN => rfl); (case hw => rfl); (case hargs => ((try simp only [List.map_toArray, List.map_cons, List.map_nil]); first | done | rfl)); (case hcl => exact number_at (g := bx) (k := 2) (by first | exact HA.out | exact HA.out.any rfl rfl rfl rfl) (by repeat (first | exact Holds.At.here | apply Holds.At.there)) HL.out HC.out (by first | exact pos_le _ _ _ | exact Nat.zero_le _ | omega) (by decide) (HS.out.mono (by simp)) hby.out); rintro e w1 ⟨rfl, HB_⟩; refine ⟨_, rfl, ?_⟩; (clear HA; have HA := Aside0.mk HB_; clear HB_)
    refine hK.out _ _ (by first | exact HA.out.none | exact (HA.out.any rfl rfl rfl rfl).none) (fun hHeld => ?_)
    clear hK K
    refine norm_ (a' := ?_) ?_ ?_
    rotate_left
    · show Act.put _ (some 26) _ = _
      simp only [Act.put, List.setIfInBounds_toArray, List.set_cons_zero, List.set_cons_succ, i64_w, i32_w]
      rfl
    refine two_ (i := 6) (j := 11) (Ni := some 27) (Nj := some 7) #[true, true, true, true, true, true, true, false, true, true, false, false, false] #[true, true, true, true, true, true, false, false, true, true, false, true, false] rfl rfl rfl rfl (by kernel_rfl) (by decide) (by decide) (fun K hK => ?_) (fun K hK => ?_)
    · skip
      apply call_e Try.func51 (args := #[.pointer (some ⟨bx, 0, none⟩), .int .i64 (leVal (nxt l0 (pos l0 (pos l0 (pos l0 0 1) 1) (leVal (nxt l0 (pos l0 0 1) 1)).toNat) 2))]); (case hname => kernel_rfl); (case hb => rfl); (case hop => rfl); (case hN => rfl); (case hw => rfl); (case hargs => ((try simp only [List.map_toArray, List.map_cons, List.map_nil]); first | done | rfl)); (case hcl => exact next_at (by first | exact HA.out | exact HA.out.any rfl rfl rfl rfl) (by repeat (first | exact Holds.At.here | apply Holds.At.there)) HL.out HC.out (by exact pos_le _ _ _) HK2.out.1 HK2.out.2 HS.out); rintro e w1 ⟨A2, d2, rfl, hd2, hs2, HB_⟩; refine ⟨_, rfl, ?_⟩; (clear HA; have HA := Aside0.mk HB_; clear HB_; have HS2 := Aside0.mk hs2; clear hs2 hd2)
      refine hK.out _ _ (by first | exact HA.out.none | exact (HA.out.any rfl rfl rfl rfl).none) (fun hHeld => ?_)
      clear hK K
      refine norm_ (a' := ?_) ?_ ?_
      rotate_left
      · show Act.put _ (some 27) _ = _
        simp only [Act.put, List.setIfInBounds_toArray, List.set_cons_zero, List.set_cons_succ, i64_w, i32_w]
        rfl
      refine take_ (i := 7) (N := some 28) (v := (.string (strOfNums (nxt l0 (pos l0 (pos l0 (pos l0 (pos l0 0 1) 1) (leVal (nxt l0 (pos l0 0 1) 1)).toNat) 2) (leVal (nxt l0 (pos l0 (pos l0 (pos l0 0 1) 1) (leVal (nxt l0 (pos l0 0 1) 1)).toNat) 2)).toNat)))) (a' := ?_) #[true, true, true, true, true, true, true, true, true, true, false, false, false] rfl rfl (by kernel_rfl) (fun _ _ _ h => h) (Or.inl ⟨by rfl, ?_⟩) (by first | exact HA.out.none | exact (HA.out.any rfl rfl rfl rfl).none) ?_ ?_
      · intro w' s0
        (apply run_text; (case hop => rfl); (case hev => conv => lhs; whnf); (case hv => rfl); (case hs => exact Try.underlying34); (case hd => exact Try.underlying9); (case he => exact Try.underlying5); (case hSr => exact HS2.out); (case hl => (have := nxt_le l0 (pos l0 (pos l0 (pos l0 (pos l0 0 1) 1) (leVal (nxt l0 (pos l0 0 1) 1)).toNat) 2) (leVal (nxt l0 (pos l0 (pos l0 (pos l0 0 1) 1) (leVal (nxt l0 (pos l0 0 1) 1)).toNat) 2)).toNat; have := HK2.out; omega)); (case HH => exact s0))
      rotate_left
      · simp only [Act.put, List.setIfInBounds_toArray, List.set_cons_zero, List.set_cons_succ, i64_w, i32_w]
        rfl
      refine pure_ (i := 10) (N := some 31) (v := ?_) (a' := ?_) #[true, true, true, true, true, true, true, true, true, true, true, false, false] rfl rfl (by kernel_rfl) (fun _ _ _ h => h) (Or.inl ⟨by rfl, ?_⟩) ?_ ?_
      rotate_left
      · intro w'
        go_simp
        with_reducible rfl
      rotate_left
      · simp only [Act.put, List.setIfInBounds_toArray, List.set_cons_zero, List.set_cons_succ, i64_w, i32_w]
        rfl
      refine one_ (i := 11) (N := some 7) #[true, true, true, true, true, true, true, true, true, true, true, true, false] rfl rfl (by kernel_rfl) (by decide) (fun K hK => ?_)
      apply alloc_e (z := .agg #[.string ⟨#[]⟩, .string ⟨#[]⟩, .bool false]); (case HH => first | exact HA.out | exact HA.out.any rfl rfl rfl rfl); (case hop => rfl); (case hN => rfl); (case hw => rfl); (case hz => kernel_rfl); (case hx => rfl); intro bn w1 HB_; clear HA; have HA := Aside0.mk HB_; clear HB_
      refine hK.out _ _ (by first | exact HA.out.none | exact (HA.out.any rfl rfl rfl rfl).none) (fun hHeld => ?_)
      clear hK K
      refine norm_ (a' := ?_) ?_ ?_
      rotate_left
      · show Act.put _ (some 7) _ = _
        simp only [Act.put, List.setIfInBounds_toArray, List.set_cons_zero, List.set_cons_succ, i64_w, i32_w]
        rfl
      refine one_ (i := 12) (N := none) #[true, true, true, true, true, true, true, true, true, true, true, true, true] rfl rfl (by kernel_rfl) (by decide) (fun K hK => ?_)
      apply store_e; (case HH => first | exact HA.out | exact HA.out.any rfl rfl rfl rfl); (case hop => rfl); (case hN => rfl); (case hw => rfl); (case hx => rfl); (case hev => conv => lhs; whnf); (case hy => rfl); (case hm => repeat (first | exact Holds.At.here | apply Holds.At.there)); (case hl => rfl); (case hn => kernel_rfl); (case h1 => simp [Value.oneCell']); (case hi => simp); intro w1 HB_; simp only [splice, List.set_cons_zero, List.set_cons_succ] at HB_; clear HA; have HA := Aside0.mk HB_; clear HB_
      refine hK.out _ _ (by first | exact HA.out.none | exact (HA.out.any rfl rfl rfl rfl).none) (fun hHeld => ?_)
      clear hK K
      refine done_ (by kernel_rfl) ?_
      go_wp2_with (first     | ((with_reducible apply load1_); (case HH => first | exact HA.out | exact HA.out.any rfl rfl rfl rfl); (case ht => rfl); (case hx => rfl); (case hw => rfl); (case hm => repeat (first | exact List.Mem.head _ | refine List.Mem.tail _ ?_)); (case hv => exact rfl); simp only [Act.put, List.setIfInBounds_toArray, List.set_cons_zero, List.set_cons_succ])     | ((with_reducible apply loadN_ (n := 3)); (case HH => first | exact HA.out | exact HA.out.any rfl rfl rfl rfl); (case ht => rfl); (case hn => decide +kernel); (case hx => rfl); (case hw => rfl); (case hm => repeat (first | exact List.Mem.head _ | refine List.Mem.tail _ ?_)); (case hv => first | (simp only [List.drop_succ_cons, List.drop_zero, List.take_succ_cons, List.take_zero]; rfl) | rfl); (case hl => rfl); simp only [Act.put, List.setIfInBounds_toArray, List.set_cons_zero, List.set_cons_succ])     | ((with_reducible apply box_); (case HH => first | exact HA.out | exact HA.out.any rfl rfl rfl rfl); (case hw => rfl); (case hev => conv => lhs; whnf); (case hy => rfl); intro bx w1 HB_; simp only [Act.put, List.setIfInBounds_toArray, List.set_cons_zero, List.set_cons_succ]; clear HA; have HA := Aside0.mk HB_; clear HB_)     | ((with_reducible apply alloc_ (z := .agg #[.string ⟨#[]⟩, .string ⟨#[]⟩, .bool false])); (case HH => first | exact HA.out | exact HA.out.any rfl rfl rfl rfl); (case hw => rfl); (case hz => kernel_rfl); (case hx => rfl); intro bx w1 HB_; simp only [Act.put, List.setIfInBounds_toArray, List.set_cons_zero, List.set_cons_succ]; clear HA; have HA := Aside0.mk HB_; clear HB_)     | ((with_reducible apply store_); (case HH => first | exact HA.out | exact HA.out.any rfl rfl rfl rfl); (case hw => rfl); (case hx => rfl); (case hev => conv => lhs; whnf); (case hy => rfl); (case hm => repeat (first | exact Holds.At.here | apply Holds.At.there)); (case hl => rfl); (case hn => kernel_rfl); (case h1 => simp [Value.oneCell']); (case hi => simp); intro w1 HB_; simp only [splice, List.set_cons_zero, List.set_cons_succ] at HB_; clear HA; have HA := Aside0.mk HB_; clear HB_)     | (go_at_call 50; (with_reducible apply Calls.mono); (case h => exact number_at (by first | exact HA.out | exact HA.out.any rfl rfl rfl rfl) (by repeat (first | exact Holds.At.here | apply Holds.At.there)) HL.out HC.out (by first | exact pos_le _ _ _ | exact Nat.zero_le _ | omega) (by decide) (HS.out.mono (by simp)) hby.out); rintro e w1 ⟨rfl, HB_⟩; clear HA; have HA := Aside0.mk HB_; clear HB_)     | (go_at_call 52; (with_reducible apply Calls.mono); (case h => exact done_calls _ _ _ _ l0 w _ _ [] (by first | exact HA.out | exact HA.out.any rfl rfl rfl rfl) (by repeat (first | exact List.Mem.head _ | refine List.Mem.tail _ ?_))); rintro e w' ⟨rfl, ⟨nd, rfl⟩⟩)); (apply end_list [.cell 2 32, .tmp 3]; (case hres => rfl); (case hd => rfl); (case hvs => apply vcell (by first | exact HA.out | exact HA.out.any rfl rfl rfl rfl); (case hp => rfl); (case hm => repeat (first | exact List.Mem.head _ | refine List.Mem.tail _ ?_)); (case hag => rfl); (case hi => kernel_rfl); (case hvs => apply Vals.tmp; exact .nil)); (case hl => simp); (case hR => exact ⟨rfl, HA.out.below⟩))
    · skip
      apply alloc_e (z := .agg #[.string ⟨#[]⟩, .string ⟨#[]⟩, .bool false]); (case HH => first | exact HA.out | exact HA.out.any rfl rfl rfl rfl); (case hop => rfl); (case hN => rfl); (case hw => rfl); (case hz => kernel_rfl); (case hx => rfl); intro bn w1 HB_; clear HA; have HA := Aside0.mk HB_; clear HB_
      refine hK.out _ _ (by first | exact HA.out.none | exact (HA.out.any rfl rfl rfl rfl).none) (fun hHeld => ?_)
      clear hK K
      refine norm_ (a' := ?_) ?_ ?_
      rotate_left
      · show Act.put _ (some 7) _ = _
        simp only [Act.put, List.setIfInBounds_toArray, List.set_cons_zero, List.set_cons_succ, i64_w, i32_w]
        rfl
      refine one_ (i := 6) (N := some 27) #[true, true, true, true, true, true, true, false, true, true, false, true, false] rfl rfl (by kernel_rfl) (by decide) (fun K hK => ?_)
      apply call_e Try.func51 (args := #[.pointer (some ⟨bx, 0, none⟩), .int .i64 (leVal (nxt l0 (pos l0 (pos l0 (pos l0 0 1) 1) (leVal (nxt l0 (pos l0 0 1) 1)).toNat) 2))]); (case hname => kernel_rfl); (case hb => rfl); (case hop => rfl); (case hN => rfl); (case hw => rfl); (case hargs => ((try simp only [List.map_toArray, List.map_cons, List.map_nil]); first | done | rfl)); (case hcl => exact next_at (by first | exact HA.out | exact HA.out.any rfl rfl rfl rfl) (by repeat (first | exact Holds.At.here | apply Holds.At.there)) HL.out HC.out (by exact pos_le _ _ _) HK2.out.1 HK2.out.2 HS.out); rintro e w1 ⟨A2, d2, rfl, hd2, hs2, HB_⟩; refine ⟨_, rfl, ?_⟩; (clear HA; have HA := Aside0.mk HB_; clear HB_; have HS2 := Aside0.mk hs2; clear hs2 hd2)
      refine hK.out _ _ (by first | exact HA.out.none | exact (HA.out.any rfl rfl rfl rfl).none) (fun hHeld => ?_)
      clear hK K
      refine norm_ (a' := ?_) ?_ ?_
      rotate_left
      · show Act.put _ (some 27) _ = _
        simp only [Act.put, List.setIfInBounds_toArray, List.set_cons_zero, List.set_cons_succ, i64_w, i32_w]
        rfl
      refine take_ (i := 7) (N := some 28) (v := (.string (strOfNums (nxt l0 (pos l0 (pos l0 (pos l0 (pos l0 0 1) 1) (leVal (nxt l0 (pos l0 0 1) 1)).toNat) 2) (leVal (nxt l0 (pos l0 (pos l0 (pos l0 0 1) 1) (leVal (nxt l0 (pos l0 0 1) 1)).toNat) 2)).toNat)))) (a' := ?_) #[true, true, true, true, true, true, true, true, true, true, false, true, false] rfl rfl (by kernel_rfl) (fun _ _ _ h => h) (Or.inl ⟨by rfl, ?_⟩) (by first | exact HA.out.none | exact (HA.out.any rfl rfl rfl rfl).none) ?_ ?_
      · intro w' s0
        (apply run_text; (case hop => rfl); (case hev => conv => lhs; whnf); (case hv => rfl); (case hs => exact Try.underlying34); (case hd => exact Try.underlying9); (case he => exact Try.underlying5); (case hSr => exact HS2.out); (case hl => (have := nxt_le l0 (pos l0 (pos l0 (pos l0 (pos l0 0 1) 1) (leVal (nxt l0 (pos l0 0 1) 1)).toNat) 2) (leVal (nxt l0 (pos l0 (pos l0 (pos l0 0 1) 1) (leVal (nxt l0 (pos l0 0 1) 1)).toNat) 2)).toNat; have := HK2.out; omega)); (case HH => exact s0))
      rotate_left
      · simp only [Act.put, List.setIfInBounds_toArray, List.set_cons_zero, List.set_cons_succ, i64_w, i32_w]
        rfl
      refine pure_ (i := 10) (N := some 31) (v := ?_) (a' := ?_) #[true, true, true, true, true, true, true, true, true, true, true, true, false] rfl rfl (by kernel_rfl) (fun _ _ _ h => h) (Or.inl ⟨by rfl, ?_⟩) ?_ ?_
      rotate_left
      · intro w'
        go_simp
        with_reducible rfl
      rotate_left
      · simp only [Act.put, List.setIfInBounds_toArray, List.set_cons_zero, List.set_cons_succ, i64_w, i32_w]
        rfl
      refine one_ (i := 12) (N := none) #[true, true, true, true, true, true, true, true, true, true, true, true, true] rfl rfl (by kernel_rfl) (by decide) (fun K hK => ?_)
      apply store_e; (case HH => first | exact HA.out | exact HA.out.any rfl rfl rfl rfl); (case hop => rfl); (case hN => rfl); (case hw => rfl); (case hx => rfl); (case hev => conv => lhs; whnf); (case hy => rfl); (case hm => repeat (first | exact Holds.At.here | apply Holds.At.there)); (case hl => rfl); (case hn => kernel_rfl); (case h1 => simp [Value.oneCell']); (case hi => simp); intro w1 HB_; simp only [splice, List.set_cons_zero, List.set_cons_succ] at HB_; clear HA; have HA := Aside0.mk HB_; clear HB_
      refine hK.out _ _ (by first | exact HA.out.none | exact (HA.out.any rfl rfl rfl rfl).none) (fun hHeld => ?_)
      clear hK K
      refine done_ (by kernel_rfl) ?_
      go_wp2_with (first     | ((with_reducible apply load1_); (case HH => first | exact HA.out | exact HA.out.any rfl rfl rfl rfl); (case ht => rfl); (case hx => rfl); (case hw => rfl); (case hm => repeat (first | exact List.Mem.head _ | refine List.Mem.tail _ ?_)); (case hv => exact rfl); simp only [Act.put, List.setIfInBounds_toArray, List.set_cons_zero, List.set_cons_succ])     | ((with_reducible apply loadN_ (n := 3)); (case HH => first | exact HA.out | exact HA.out.any rfl rfl rfl rfl); (case ht => rfl); (case hn => decide +kernel); (case hx => rfl); (case hw => rfl); (case hm => repeat (first | exact List.Mem.head _ | refine List.Mem.tail _ ?_)); (case hv => first | (simp only [List.drop_succ_cons, List.drop_zero, List.take_succ_cons, List.take_zero]; rfl) | rfl); (case hl => rfl); simp only [Act.put, List.setIfInBounds_toArray, List.set_cons_zero, List.set_cons_succ])     | ((with_reducible apply box_); (case HH => first | exact HA.out | exact HA.out.any rfl rfl rfl rfl); (case hw => rfl); (case hev => conv => lhs; whnf); (case hy => rfl); intro bx w1 HB_; simp only [Act.put, List.setIfInBounds_toArray, List.set_cons_zero, List.set_cons_succ]; clear HA; have HA := Aside0.mk HB_; clear HB_)     | ((with_reducible apply alloc_ (z := .agg #[.string ⟨#[]⟩, .string ⟨#[]⟩, .bool false])); (case HH => first | exact HA.out | exact HA.out.any rfl rfl rfl rfl); (case hw => rfl); (case hz => kernel_rfl); (case hx => rfl); intro bx w1 HB_; simp only [Act.put, List.setIfInBounds_toArray, List.set_cons_zero, List.set_cons_succ]; clear HA; have HA := Aside0.mk HB_; clear HB_)     | ((with_reducible apply store_); (case HH => first | exact HA.out | exact HA.out.any rfl rfl rfl rfl); (case hw => rfl); (case hx => rfl); (case hev => conv => lhs; whnf); (case hy => rfl); (case hm => repeat (first | exact Holds.At.here | apply Holds.At.there)); (case hl => rfl); (case hn => kernel_rfl); (case h1 => simp [Value.oneCell']); (case hi => simp); intro w1 HB_; simp only [splice, List.set_cons_zero, List.set_cons_succ] at HB_; clear HA; have HA := Aside0.mk HB_; clear HB_)     | (go_at_call 50; (with_reducible apply Calls.mono); (case h => exact number_at (by first | exact HA.out | exact HA.out.any rfl rfl rfl rfl) (by repeat (first | exact Holds.At.here | apply Holds.At.there)) HL.out HC.out (by first | exact pos_le _ _ _ | exact Nat.zero_le _ | omega) (by decide) (HS.out.mono (by simp)) hby.out); rintro e w1 ⟨rfl, HB_⟩; clear HA; have HA := Aside0.mk HB_; clear HB_)     | (go_at_call 52; (with_reducible apply Calls.mono); (case h => exact done_calls _ _ _ _ l0 w _ _ [] (by first | exact HA.out | exact HA.out.any rfl rfl rfl rfl) (by repeat (first | exact List.Mem.head _ | refine List.Mem.tail _ ?_))); rintro e w' ⟨rfl, ⟨nd, rfl⟩⟩)); (apply end_list [.cell 2 32, .tmp 3]; (case hres => rfl); (case hd => rfl); (case hvs => apply vcell (by first | exact HA.out | exact HA.out.any rfl rfl rfl rfl); (case hp => rfl); (case hm => repeat (first | exact List.Mem.head _ | refine List.Mem.tail _ ?_)); (case hag => rfl); (case hi => kernel_rfl); (case hvs => apply Vals.tmp; exact .nil)); (case hl => simp); (case hR => exact ⟨rfl, HA.out.below⟩))
  · skip
    apply alloc_e (z := .agg #[.string ⟨#[]⟩, .string ⟨#[]⟩, .bool false]); (case HH => first | exact HA.out | exact HA.out.any rfl rfl rfl rfl); (case hop => rfl); (case hN => rfl); (case hw => rfl); (case hz => kernel_rfl); (case hx => rfl); intro bn w1 HB_; clear HA; have HA := Aside0.mk HB_; clear HB_
    refine hK.out _ _ (by first | exact HA.out.none | exact (HA.out.any rfl rfl rfl rfl).none) (fun hHeld => ?_)
    clear hK K
    refine norm_ (a' := ?_) ?_ ?_
    rotate_left
    · show Act.put _ (some 7) _ = _
      simp only [Act.put, List.setIfInBounds_toArray, List.set_cons_zero, List.set_cons_succ, i64_w, i32_w]
      rfl
    refine one_ (i := 5) (N := some 26) #[true, true, true, true, true, true, false, false, true, true, false, true, false] rfl rfl (by kernel_rfl) (by decide) (fun K hK => ?_)
    apply call_e Try.func50 (args := #[.pointer (some ⟨bx, 0, none⟩), .int .i64 2]); (case hname => kernel_rfl); (case hb => rfl); (case hop => rfl); (case hN => rfl); (case hw => rfl); (case hargs => ((try simp only [List.map_toArray, List.map_cons, List.map_nil]); first | done | rfl)); (case hcl => exact number_at (g := bx) (k := 2) (by first | exact HA.out | exact HA.out.any rfl rfl rfl rfl) (by repeat (first | exact Holds.At.here | apply Holds.At.there)) HL.out HC.out (by first | exact pos_le _ _ _ | exact Nat.zero_le _ | omega) (by decide) (HS.out.mono (by simp)) hby.out); rintro e w1 ⟨rfl, HB_⟩; refine ⟨_, rfl, ?_⟩; (clear HA; have HA := Aside0.mk HB_; clear HB_)
    refine hK.out _ _ (by first | exact HA.out.none | exact (HA.out.any rfl rfl rfl rfl).none) (fun hHeld => ?_)
    clear hK K
    refine norm_ (a' := ?_) ?_ ?_
    rotate_left
    · show Act.put _ (some 26) _ = _
      simp only [Act.put, List.setIfInBounds_toArray, List.set_cons_zero, List.set_cons_succ, i64_w, i32_w]
      rfl
    refine one_ (i := 6) (N := some 27) #[true, true, true, true, true, true, true, false, true, true, false, true, false] rfl rfl (by kernel_rfl) (by decide) (fun K hK => ?_)
    apply call_e Try.func51 (args := #[.pointer (some ⟨bx, 0, none⟩), .int .i64 (leVal (nxt l0 (pos l0 (pos l0 (pos l0 0 1) 1) (leVal (nxt l0 (pos l0 0 1) 1)).toNat) 2))]); (case hname => kernel_rfl); (case hb => rfl); (case hop => rfl); (case hN => rfl); (case hw => rfl); (case hargs => ((try simp only [List.map_toArray, List.map_cons, List.map_nil]); first | done | rfl)); (case hcl => exact next_at (by first | exact HA.out | exact HA.out.any rfl rfl rfl rfl) (by repeat (first | exact Holds.At.here | apply Holds.At.there)) HL.out HC.out (by exact pos_le _ _ _) HK2.out.1 HK2.out.2 HS.out); rintro e w1 ⟨A2, d2, rfl, hd2, hs2, HB_⟩; refine ⟨_, rfl, ?_⟩; (clear HA; have HA := Aside0.mk HB_; clear HB_; have HS2 := Aside0.mk hs2; clear hs2 hd2)
    refine hK.out _ _ (by first | exact HA.out.none | exact (HA.out.any rfl rfl rfl rfl).none) (fun hHeld => ?_)
    clear hK K
    refine norm_ (a' := ?_) ?_ ?_
    rotate_left
    · show Act.put _ (some 27) _ = _
      simp only [Act.put, List.setIfInBounds_toArray, List.set_cons_zero, List.set_cons_succ, i64_w, i32_w]
      rfl
    refine take_ (i := 7) (N := some 28) (v := (.string (strOfNums (nxt l0 (pos l0 (pos l0 (pos l0 (pos l0 0 1) 1) (leVal (nxt l0 (pos l0 0 1) 1)).toNat) 2) (leVal (nxt l0 (pos l0 (pos l0 (pos l0 0 1) 1) (leVal (nxt l0 (pos l0 0 1) 1)).toNat) 2)).toNat)))) (a' := ?_) #[true, true, true, true, true, true, true, true, true, true, false, true, false] rfl rfl (by kernel_rfl) (fun _ _ _ h => h) (Or.inl ⟨by rfl, ?_⟩) (by first | exact HA.out.none | exact (HA.out.any rfl rfl rfl rfl).none) ?_ ?_
    · intro w' s0
      (apply run_text; (case hop => rfl); (case hev => conv => lhs; whnf); (case hv => rfl); (case hs => exact Try.underlying34); (case hd => exact Try.underlying9); (case he => exact Try.underlying5); (case hSr => exact HS2.out); (case hl => (have := nxt_le l0 (pos l0 (pos l0 (pos l0 (pos l0 0 1) 1) (leVal (nxt l0 (pos l0 0 1) 1)).toNat) 2) (leVal (nxt l0 (pos l0 (pos l0 (pos l0 0 1) 1) (leVal (nxt l0 (pos l0 0 1) 1)).toNat) 2)).toNat; have := HK2.out; omega)); (case HH => exact s0))
    rotate_left
    · simp only [Act.put, List.setIfInBounds_toArray, List.set_cons_zero, List.set_cons_succ, i64_w, i32_w]
      rfl
    refine pure_ (i := 10) (N := some 31) (v := ?_) (a' := ?_) #[true, true, true, true, true, true, true, true, true, true, true, true, false] rfl rfl (by kernel_rfl) (fun _ _ _ h => h) (Or.inl ⟨by rfl, ?_⟩) ?_ ?_
    rotate_left
    · intro w'
      go_simp
      with_reducible rfl
    rotate_left
    · simp only [Act.put, List.setIfInBounds_toArray, List.set_cons_zero, List.set_cons_succ, i64_w, i32_w]
      rfl
    refine one_ (i := 12) (N := none) #[true, true, true, true, true, true, true, true, true, true, true, true, true] rfl rfl (by kernel_rfl) (by decide) (fun K hK => ?_)
    apply store_e; (case HH => first | exact HA.out | exact HA.out.any rfl rfl rfl rfl); (case hop => rfl); (case hN => rfl); (case hw => rfl); (case hx => rfl); (case hev => conv => lhs; whnf); (case hy => rfl); (case hm => repeat (first | exact Holds.At.here | apply Holds.At.there)); (case hl => rfl); (case hn => kernel_rfl); (case h1 => simp [Value.oneCell']); (case hi => simp); intro w1 HB_; simp only [splice, List.set_cons_zero, List.set_cons_succ] at HB_; clear HA; have HA := Aside0.mk HB_; clear HB_
    refine hK.out _ _ (by first | exact HA.out.none | exact (HA.out.any rfl rfl rfl rfl).none) (fun hHeld => ?_)
    clear hK K
    refine done_ (by kernel_rfl) ?_
    go_wp2_with (first     | ((with_reducible apply load1_); (case HH => first | exact HA.out | exact HA.out.any rfl rfl rfl rfl); (case ht => rfl); (case hx => rfl); (case hw => rfl); (case hm => repeat (first | exact List.Mem.head _ | refine List.Mem.tail _ ?_)); (case hv => exact rfl); simp only [Act.put, List.setIfInBounds_toArray, List.set_cons_zero, List.set_cons_succ])     | ((with_reducible apply loadN_ (n := 3)); (case HH => first | exact HA.out | exact HA.out.any rfl rfl rfl rfl); (case ht => rfl); (case hn => decide +kernel); (case hx => rfl); (case hw => rfl); (case hm => repeat (first | exact List.Mem.head _ | refine List.Mem.tail _ ?_)); (case hv => first | (simp only [List.drop_succ_cons, List.drop_zero, List.take_succ_cons, List.take_zero]; rfl) | rfl); (case hl => rfl); simp only [Act.put, List.setIfInBounds_toArray, List.set_cons_zero, List.set_cons_succ])     | ((with_reducible apply box_); (case HH => first | exact HA.out | exact HA.out.any rfl rfl rfl rfl); (case hw => rfl); (case hev => conv => lhs; whnf); (case hy => rfl); intro bx w1 HB_; simp only [Act.put, List.setIfInBounds_toArray, List.set_cons_zero, List.set_cons_succ]; clear HA; have HA := Aside0.mk HB_; clear HB_)     | ((with_reducible apply alloc_ (z := .agg #[.string ⟨#[]⟩, .string ⟨#[]⟩, .bool false])); (case HH => first | exact HA.out | exact HA.out.any rfl rfl rfl rfl); (case hw => rfl); (case hz => kernel_rfl); (case hx => rfl); intro bx w1 HB_; simp only [Act.put, List.setIfInBounds_toArray, List.set_cons_zero, List.set_cons_succ]; clear HA; have HA := Aside0.mk HB_; clear HB_)     | ((with_reducible apply store_); (case HH => first | exact HA.out | exact HA.out.any rfl rfl rfl rfl); (case hw => rfl); (case hx => rfl); (case hev => conv => lhs; whnf); (case hy => rfl); (case hm => repeat (first | exact Holds.At.here | apply Holds.At.there)); (case hl => rfl); (case hn => kernel_rfl); (case h1 => simp [Value.oneCell']); (case hi => simp); intro w1 HB_; simp only [splice, List.set_cons_zero, List.set_cons_succ] at HB_; clear HA; have HA := Aside0.mk HB_; clear HB_)     | (go_at_call 50; (with_reducible apply Calls.mono); (case h => exact number_at (by first | exact HA.out | exact HA.out.any rfl rfl rfl rfl) (by repeat (first | exact Holds.At.here | apply Holds.At.there)) HL.out HC.out (by first | exact pos_le _ _ _ | exact Nat.zero_le _ | omega) (by decide) (HS.out.mono (by simp)) hby.out); rintro e w1 ⟨rfl, HB_⟩; clear HA; have HA := Aside0.mk HB_; clear HB_)     | (go_at_call 52; (with_reducible apply Calls.mono); (case h => exact done_calls _ _ _ _ l0 w _ _ [] (by first | exact HA.out | exact HA.out.any rfl rfl rfl rfl) (by repeat (first | exact List.Mem.head _ | refine List.Mem.tail _ ?_))); rintro e w' ⟨rfl, ⟨nd, rfl⟩⟩)); (apply end_list [.cell 2 32, .tmp 3]; (case hres => rfl); (case hd => rfl); (case hvs => apply vcell (by first | exact HA.out | exact HA.out.any rfl rfl rfl rfl); (case hp => rfl); (case hm => repeat (first | exact List.Mem.head _ | refine List.Mem.tail _ ?_)); (case hag => rfl); (case hi => kernel_rfl); (case hvs => apply Vals.tmp; exact .nil)); (case hl => simp); (case hR => exact ⟨rfl, HA.out.below⟩))
set_option maxHeartbeats 8000000 in
set_option maxRecDepth 100000 in
theorem unpack_k (A0 : Option Addr) (c0 : Nat) (l0 : List Int) (w : World) (hr0 : Kd.C (Kd.int .u8) w A0 l0.length l0) (hc0 : l0.length ≤ c0) (hl : l0.length ≤ 281474976710656) (hb : Bytes l0) (f0 : (leVal (nxt l0 0 1) == 1) = false) (f1 : (leVal (nxt l0 0 1) != 1) = true) (f2 : (leVal (nxt l0 0 1) == 2) = false) (f3 : (leVal (nxt l0 0 1) != 2) = true) :
    Calls Try.prog 26 #[.slice A0 l0.length c0] w fun e w' => e = .returned (.tuple #[.agg #[.string ⟨#[]⟩, .string ⟨#[]⟩, .bool false], .bool false]) ∧ Below w.heap.size w w' := by
  have HS : Aside0 (Src (Value.int .u8) w [] A0 l0) := Aside0.mk (Src.of_C (h1 := fun _ => rfl) hr0)
  have HL := Aside0.mk hl
  have hby := Aside0.mk hb
  have HC := Aside0.mk hc0
  have HA := Aside0.mk (Holds.start w)
  have HK1 := Aside0.mk (show (leVal (nxt l0 (pos l0 0 1) 1)).toNat ≤ 1048576 ∧ leVal (nxt l0 (pos l0 0 1) 1) = ((leVal (nxt l0 (pos l0 0 1) 1)).toNat : Int) from by have := leVal_small (hb.nxt (pos l0 0 1) 1) (nxt_le l0 _ 1); omega)
  have HK2 := Aside0.mk (show (leVal (nxt l0 (pos l0 (pos l0 (pos l0 0 1) 1) (leVal (nxt l0 (pos l0 0 1) 1)).toNat) 2)).toNat ≤ 1048576 ∧ leVal (nxt l0 (pos l0 (pos l0 (pos l0 0 1) 1) (leVal (nxt l0 (pos l0 0 1) 1)).toNat) 2) = ((leVal (nxt l0 (pos l0 (pos l0 (pos l0 0 1) 1) (leVal (nxt l0 (pos l0 0 1) 1)).toNat) 2)).toNat : Int) from by have := leVal_small2 (hb.nxt (pos l0 (pos l0 (pos l0 0 1) 1) (leVal (nxt l0 (pos l0 0 1) 1)).toNat) 2) (nxt_le l0 _ 2); omega)
  clear hr0 hl hb hc0
  go_enter Try.func26, Try.ntmps26
  go_wp2_with (first
    | ((with_reducible apply load1_); (case HH => first | exact HA.out | exact HA.out.any rfl rfl rfl rfl); (case ht => rfl); (case hx => rfl); (case hw => rfl); (case hm => repeat (first | exact List.Mem.head _ | refine List.Mem.tail _ ?_)); (case hv => exact rfl); simp only [Act.put, List.setIfInBounds_toArray, List.set_cons_zero, List.set_cons_succ])
    | ((with_reducible apply loadN_ (n := 3)); (case HH => first | exact HA.out | exact HA.out.any rfl rfl rfl rfl); (case ht => rfl); (case hn => decide +kernel); (case hx => rfl); (case hw => rfl); (case hm => repeat (first | exact List.Mem.head _ | refine List.Mem.tail _ ?_)); (case hv => first | (simp only [List.drop_succ_cons, List.drop_zero, List.take_succ_cons, List.take_zero]; rfl) | rfl); (case hl => rfl); simp only [Act.put, List.setIfInBounds_toArray, List.set_cons_zero, List.set_cons_succ])
    | ((with_reducible apply box_); (case HH => first | exact HA.out | exact HA.out.any rfl rfl rfl rfl); (case hw => rfl); (case hev => conv => lhs; whnf); (case hy => rfl); intro bx w1 HB_; simp only [Act.put, List.setIfInBounds_toArray, List.set_cons_zero, List.set_cons_succ]; clear HA; have HA := Aside0.mk HB_; clear HB_)
    | ((with_reducible apply alloc_ (z := .agg #[.string ⟨#[]⟩, .string ⟨#[]⟩, .bool false])); (case HH => first | exact HA.out | exact HA.out.any rfl rfl rfl rfl); (case hw => rfl); (case hz => kernel_rfl); (case hx => rfl); intro bx w1 HB_; simp only [Act.put, List.setIfInBounds_toArray, List.set_cons_zero, List.set_cons_succ]; clear HA; have HA := Aside0.mk HB_; clear HB_)
    | ((with_reducible apply store_); (case HH => first | exact HA.out | exact HA.out.any rfl rfl rfl rfl); (case hw => rfl); (case hx => rfl); (case hev => conv => lhs; whnf); (case hy => rfl); (case hm => repeat (first | exact Holds.At.here | apply Holds.At.there)); (case hl => rfl); (case hn => kernel_rfl); (case h1 => simp [Value.oneCell']); (case hi => simp); intro w1 HB_; simp only [splice, List.set_cons_zero, List.set_cons_succ] at HB_; clear HA; have HA := Aside0.mk HB_; clear HB_)
    | (go_at_call 50; (with_reducible apply Calls.mono); (case h => exact number_at (by first | exact HA.out | exact HA.out.any rfl rfl rfl rfl) (by repeat (first | exact Holds.At.here | apply Holds.At.there)) HL.out HC.out (by first | exact pos_le _ _ _ | exact Nat.zero_le _ | omega) (by decide) (HS.out.mono (by simp)) hby.out); rintro e w1 ⟨rfl, HB_⟩; clear HA; have HA := Aside0.mk HB_; clear HB_)
    | (go_at_call 52; (with_reducible apply Calls.mono); (case h => exact done_calls _ _ _ _ l0 w _ _ [] (by first | exact HA.out | exact HA.out.any rfl rfl rfl rfl) (by repeat (first | exact List.Mem.head _ | refine List.Mem.tail _ ?_))); rintro e w' ⟨rfl, ⟨nd, rfl⟩⟩))
  refine start_H (by first | exact HA.out.none | exact (HA.out.any rfl rfl rfl rfl).none) (n := 8) [] #[false, false, false, false, false, false, false, false] (by kernel_rfl) rfl rfl ?_
  refine pure_ (i := 0) (N := some 14) (v := ?_) (a' := ?_) #[true, false, false, false, false, false, false, false] rfl rfl (by kernel_rfl) (fun _ _ _ h => h) (Or.inl ⟨by rfl, ?_⟩) ?_ ?_
  rotate_left
  · intro w'
    go_simp
    with_reducible rfl
  rotate_left
  · simp only [Act.put, List.setIfInBounds_toArray, List.set_cons_zero, List.set_cons_succ, i64_w, i32_w]
    rfl
  refine pure_ (i := 1) (N := some 15) (v := ?_) (a' := ?_) #[true, true, false, false, false, false, false, false] rfl rfl (by kernel_rfl) (fun _ _ _ h => h) (Or.inl ⟨by rfl, ?_⟩) ?_ ?_
  rotate_left
  · intro w'
    go_simp
    with_reducible rfl
  rotate_left
  · simp only [Act.put, List.setIfInBounds_toArray, List.set_cons_zero, List.set_cons_succ, i64_w, i32_w]
    rfl
  refine pure_ (i := 2) (N := some 16) (v := ?_) (a' := ?_) #[true, true, true, false, false, false, false, false] rfl rfl (by kernel_rfl) (fun _ _ _ h => h) (Or.inl ⟨by rfl, ?_⟩) ?_ ?_
  rotate_left
  · intro w'
    go_simp
    with_reducible rfl
  rotate_left
  · simp only [Act.put, List.setIfInBounds_toArray, List.set_cons_zero, List.set_cons_succ, i64_w, i32_w]
    rfl
  refine pure_ (i := 3) (N := some 17) (v := ?_) (a' := ?_) #[true, true, true, true, false, false, false, false] rfl rfl (by kernel_rfl) (fun _ _ _ h => h) (Or.inl ⟨by rfl, ?_⟩) ?_ ?_
  rotate_left
  · intro w'
    go_simp
    with_reducible rfl
  rotate_left
  · simp only [Act.put, List.setIfInBounds_toArray, List.set_cons_zero, List.set_cons_succ, i64_w, i32_w]
    rfl
  refine one_ (i := 4) (N := some 18) #[true, true, true, true, true, false, false, false] rfl rfl (by kernel_rfl) (by decide) (fun K hK => ?_)
  apply call_e Try.func50 (args := #[.pointer (some ⟨bx, 0, none⟩), .int .i64 1]); (case hname => kernel_rfl); (case hb => rfl); (case hop => rfl); (case hN => rfl); (case hw => rfl); (case hargs => ((try simp only [List.map_toArray, List.map_cons, List.map_nil]); first | done | rfl)); (case hcl => exact number_at (g := bx) (k := 1) (by first | exact HA.out | exact HA.out.any rfl rfl rfl rfl) (by repeat (first | exact Holds.At.here | apply Holds.At.there)) HL.out HC.out (by first | exact pos_le _ _ _ | exact Nat.zero_le _ | omega) (by decide) (HS.out.mono (by simp)) hby.out); rintro e w1 ⟨rfl, HB_⟩; refine ⟨_, rfl, ?_⟩; (clear HA; have HA := Aside0.mk HB_; clear HB_)
  refine hK.out _ _ (by first | exact HA.out.none | exact (HA.out.any rfl rfl rfl rfl).none) (fun hHeld => ?_)
  clear hK K
  refine norm_ (a' := ?_) ?_ ?_
  rotate_left
  · show Act.put _ (some 18) _ = _
    simp only [Act.put, List.setIfInBounds_toArray, List.set_cons_zero, List.set_cons_succ, i64_w, i32_w]
    rfl
  refine one_ (i := 5) (N := some 19) #[true, true, true, true, true, true, false, false] rfl rfl (by kernel_rfl) (by decide) (fun K hK => ?_)
  apply call_e Try.func51 (args := #[.pointer (some ⟨bx, 0, none⟩), .int .i64 (leVal (nxt l0 (pos l0 0 1) 1))]); (case hname => kernel_rfl); (case hb => rfl); (case hop => rfl); (case hN => rfl); (case hw => rfl); (case hargs => ((try simp only [List.map_toArray, List.map_cons, List.map_nil]); first | done | rfl)); (case hcl => exact next_at (by first | exact HA.out | exact HA.out.any rfl rfl rfl rfl) (by repeat (first | exact Holds.At.here | apply Holds.At.there)) HL.out HC.out (by exact pos_le _ _ _) HK1.out.1 HK1.out.2 HS.out); rintro e w1 ⟨A1, d1, rfl, hd1, hs1, HB_⟩; refine ⟨_, rfl, ?_⟩; (clear HA; have HA := Aside0.mk HB_; clear HB_; have HS1 := Aside0.mk hs1; clear hs1 hd1)
  refine hK.out _ _ (by first | exact HA.out.none | exact (HA.out.any rfl rfl rfl rfl).none) (fun hHeld => ?_)
  clear hK K
  refine norm_ (a' := ?_) ?_ ?_
  rotate_left
  · show Act.put _ (some 19) _ = _
    simp only [Act.put, List.setIfInBounds_toArray, List.set_cons_zero, List.set_cons_succ, i64_w, i32_w]
    rfl
  refine take_ (i := 6) (N := some 20) (v := (.string (strOfNums (nxt l0 (pos l0 (pos l0 0 1) 1) (leVal (nxt l0 (pos l0 0 1) 1)).toNat)))) (a' := ?_) #[true, true, true, true, true, true, true, false] rfl rfl (by kernel_rfl) (fun _ _ _ h => h) (Or.inl ⟨by rfl, ?_⟩) (by first | exact HA.out.none | exact (HA.out.any rfl rfl rfl rfl).none) ?_ ?_
  · intro w' s0
    (apply run_text; (case hop => rfl); (case hev => conv => lhs; whnf); (case hv => rfl); (case hs => exact Try.underlying34); (case hd => exact Try.underlying9); (case he => exact Try.underlying5); (case hSr => exact HS1.out); (case hl => (have := nxt_le l0 (pos l0 (pos l0 0 1) 1) (leVal (nxt l0 (pos l0 0 1) 1)).toNat; have := HK1.out; omega)); (case HH => exact s0))
  rotate_left
  · simp only [Act.put, List.setIfInBounds_toArray, List.set_cons_zero, List.set_cons_succ, i64_w, i32_w]
    rfl
  refine pure_ (i := 7) (N := some 6) (v := ?_) (a' := ?_) #[true, true, true, true, true, true, true, true] rfl rfl (by kernel_rfl) (fun _ _ _ h => h) (Or.inl ⟨by rfl, ?_⟩) ?_ ?_
  rotate_left
  · intro w'
    go_simp
    with_reducible rfl
  rotate_left
  · simp only [Act.put, List.setIfInBounds_toArray, List.set_cons_zero, List.set_cons_succ, i64_w, i32_w]
    rfl
  refine done_ (by kernel_rfl) ?_
  go_wp2
  refine start_H (by first | exact HA.out.none | exact (HA.out.any rfl rfl rfl rfl).none) (n := 13) [] #[false, false, false, false, false, false, false, false, false, false, false, false, false] (by kernel_rfl) rfl rfl ?_
  refine pure_ (i := 0) (N := some 21) (v := ?_) (a' := ?_) #[true, false, false, false, false, false, false, false, false, false, false, false, false] rfl rfl (by kernel_rfl) (fun _ _ _ h => h) (Or.inl ⟨by rfl, ?_⟩) ?_ ?_
  rotate_left
  · intro w'
    go_simp
    with_reducible rfl
  rotate_left
  · simp only [Act.put, List.setIfInBounds_toArray, List.set_cons_zero, List.set_cons_succ, i64_w, i32_w]
    rfl
  refine pure_ (i := 1) (N := some 22) (v := ?_) (a' := ?_) #[true, true, false, false, false, false, false, false, false, false, false, false, false] rfl rfl (by kernel_rfl) (fun _ _ _ h => h) (Or.inl ⟨by rfl, ?_⟩) ?_ ?_
  rotate_left
  · intro w'
    go_simp
    with_reducible rfl
  rotate_left
  · simp only [Act.put, List.setIfInBounds_toArray, List.set_cons_zero, List.set_cons_succ, i64_w, i32_w]
    rfl
  refine pure_ (i := 2) (N := some 23) (v := ?_) (a' := ?_) #[true, true, true, false, false, false, false, false, false, false, false, false, false] rfl rfl (by kernel_rfl) (fun _ _ _ h => h) (Or.inl ⟨by rfl, ?_⟩) ?_ ?_
  rotate_left
  · intro w'
    go_simp
    with_reducible rfl
  rotate_left
  · simp only [Act.put, List.setIfInBounds_toArray, List.set_cons_zero, List.set_cons_succ, i64_w, i32_w]
    rfl
  refine pure_ (i := 3) (N := some 24) (v := ?_) (a' := ?_) #[true, true, true, true, false, false, false, false, false, false, false, false, false] rfl rfl (by kernel_rfl) (fun _ _ _ h => h) (Or.inl ⟨by rfl, ?_⟩) ?_ ?_
  rotate_left
  · intro w'
    go_simp
    with_reducible rfl
  rotate_left
  · simp only [Act.put, List.setIfInBounds_toArray, List.set_cons_zero, List.set_cons_succ, i64_w, i32_w]
    rfl
  refine pure_ (i := 4) (N := some 25) (v := ?_) (a' := ?_) #[true, true, true, true, true, false, false, false, false, false, false, false, false] rfl rfl (by kernel_rfl) (fun _ _ _ h => h) (Or.inl ⟨by rfl, ?_⟩) ?_ ?_
  rotate_left
  · intro w'
    go_simp
    with_reducible rfl
  rotate_left
  · simp only [Act.put, List.setIfInBounds_toArray, List.set_cons_zero, List.set_cons_succ, i64_w, i32_w]
    rfl
  refine pure_ (i := 8) (N := some 29) (v := ?_) (a' := ?_) #[true, true, true, true, true, false, false, false, true, false, false, false, false] rfl rfl (by kernel_rfl) (fun _ _ _ h => h) (Or.inl ⟨by rfl, ?_⟩) ?_ ?_
  rotate_left
  · intro w'
    go_simp
    with_reducible rfl
  rotate_left
  · simp only [Act.put, List.setIfInBounds_toArray, List.set_cons_zero, List.set_cons_succ, i64_w, i32_w]
    rfl
  refine pure_ (i := 9) (N := some 30) (v := ?_) (a' := ?_) #[true, true, true, true, true, false, false, false, true, true, false, false, false] rfl rfl (by kernel_rfl) (fun _ _ _ h => h) (Or.inl ⟨by rfl, ?_⟩) ?_ ?_
  rotate_left
  · intro w'
    go_simp
    with_reducible rfl
  rotate_left
  · simp only [Act.put, List.setIfInBounds_toArray, List.set_cons_zero, List.set_cons_succ, i64_w, i32_w]
    rfl
  refine two_ (i := 5) (j := 11) (Ni := some 26) (Nj := some 7) #[true, true, true, true, true, true, false, false, true, true, false, false, false] #[true, true, true, true, true, false, false, false, true, true, false, true, false] rfl rfl rfl rfl (by kernel_rfl) (by decide) (by decide) (fun K hK => ?_) (fun K hK => ?_)
  · skip
    apply call_e Try.func50 (args := #[.pointer (some ⟨bx, 0, none⟩), .int .i64 2]); (case hname => kernel_rfl); (case hb => rfl); (case hop => rfl); (case hN => rfl); (case hw => rfl); (case hargs => ((try simp only [List.map_toArray, List.map_cons, List.map_nil]); first | done | rfl)); (case hcl => exact number_at (g := bx) (k := 2) (by first | exact HA.out | exact HA.out.any rfl rfl rfl rfl) (by repeat (first | exact Holds.At.here | apply Holds.At.there)) HL.out HC.out (by first | exact pos_le _ _ _ | exact Nat.zero_le _ | omega) (by decide) (HS.out.mono (by simp)) hby.out); rintro e w1 ⟨rfl, HB_⟩; refine ⟨_, rfl, ?_⟩; (clear HA; have HA := Aside0.mk HB_; clear HB_)
    refine hK.out _ _ (by first | exact HA.out.none | exact (HA.out.any rfl rfl rfl rfl).none) (fun hHeld => ?_)
    clear hK K
    refine norm_ (a' := ?_) ?_ ?_
    rotate_left
    · show Act.put _ (some 26) _ = _
      simp only [Act.put, List.setIfInBounds_toArray, List.set_cons_zero, List.set_cons_succ, i64_w, i32_w]
      rfl
    refine two_ (i := 6) (j := 11) (Ni := some 27) (Nj := some 7) #[true, true, true, true, true, true, true, false, true, true, false, false, false] #[true, true, true, true, true, true, false, false, true, true, false, true, false] rfl rfl rfl rfl (by kernel_rfl) (by decide) (by decide) (fun K hK => ?_) (fun K hK => ?_)
    · skip
      apply call_e Try.func51 (args := #[.pointer (some ⟨bx, 0, none⟩), .int .i64 (leVal (nxt l0 (pos l0 (pos l0 (pos l0 0 1) 1) (leVal (nxt l0 (pos l0 0 1) 1)).toNat) 2))]); (case hname => kernel_rfl); (case hb => rfl); (case hop => rfl); (case hN => rfl); (case hw => rfl); (case hargs => ((try simp only [List.map_toArray, List.map_cons, List.map_nil]); first | done | rfl)); (case hcl => exact next_at (by first | exact HA.out | exact HA.out.any rfl rfl rfl rfl) (by repeat (first | exact Holds.At.here | apply Holds.At.there)) HL.out HC.out (by exact pos_le _ _ _) HK2.out.1 HK2.out.2 HS.out); rintro e w1 ⟨A2, d2, rfl, hd2, hs2, HB_⟩; refine ⟨_, rfl, ?_⟩; (clear HA; have HA := Aside0.mk HB_; clear HB_; have HS2 := Aside0.mk hs2; clear hs2 hd2)
      refine hK.out _ _ (by first | exact HA.out.none | exact (HA.out.any rfl rfl rfl rfl).none) (fun hHeld => ?_)
      clear hK K
      refine norm_ (a' := ?_) ?_ ?_
      rotate_left
      · show Act.put _ (some 27) _ = _
        simp only [Act.put, List.setIfInBounds_toArray, List.set_cons_zero, List.set_cons_succ, i64_w, i32_w]
        rfl
      refine take_ (i := 7) (N := some 28) (v := (.string (strOfNums (nxt l0 (pos l0 (pos l0 (pos l0 (pos l0 0 1) 1) (leVal (nxt l0 (pos l0 0 1) 1)).toNat) 2) (leVal (nxt l0 (pos l0 (pos l0 (pos l0 0 1) 1) (leVal (nxt l0 (pos l0 0 1) 1)).toNat) 2)).toNat)))) (a' := ?_) #[true, true, true, true, true, true, true, true, true, true, false, false, false] rfl rfl (by kernel_rfl) (fun _ _ _ h => h) (Or.inl ⟨by rfl, ?_⟩) (by first | exact HA.out.none | exact (HA.out.any rfl rfl rfl rfl).none) ?_ ?_
      · intro w' s0
        (apply run_text; (case hop => rfl); (case hev => conv => lhs; whnf); (case hv => rfl); (case hs => exact Try.underlying34); (case hd => exact Try.underlying9); (case he => exact Try.underlying5); (case hSr => exact HS2.out); (case hl => (have := nxt_le l0 (pos l0 (pos l0 (pos l0 (pos l0 0 1) 1) (leVal (nxt l0 (pos l0 0 1) 1)).toNat) 2) (leVal (nxt l0 (pos l0 (pos l0 (pos l0 0 1) 1) (leVal (nxt l0 (pos l0 0 1) 1)).toNat) 2)).toNat; have := HK2.out; omega)); (case HH => exact s0))
      rotate_left
      · simp only [Act.put, List.setIfInBounds_toArray, List.set_cons_zero, List.set_cons_succ, i64_w, i32_w]
        rfl
      refine pure_ (i := 10) (N := some 31) (v := ?_) (a' := ?_) #[true, true, true, true, true, true, true, true, true, true, true, false, false] rfl rfl (by kernel_rfl) (fun _ _ _ h => h) (Or.inl ⟨by rfl, ?_⟩) ?_ ?_
      rotate_left
      · intro w'
        go_simp
        with_reducible rfl
      rotate_left
      · simp only [Act.put, List.setIfInBounds_toArray, List.set_cons_zero, List.set_cons_succ, i64_w, i32_w]
        rfl
      refine one_ (i := 11) (N := some 7) #[true, true, true, true, true, true, true, true, true, true, true, true, false] rfl rfl (by kernel_rfl) (by decide) (fun K hK => ?_)
      apply alloc_e (z := .agg #[.string ⟨#[]⟩, .string ⟨#[]⟩, .bool false]); (case HH => first | exact HA.out | exact HA.out.any rfl rfl rfl rfl); (case hop => rfl); (case hN => rfl); (case hw => rfl); (case hz => kernel_rfl); (case hx => rfl); intro bn w1 HB_; clear HA; have HA := Aside0.mk HB_; clear HB_
      refine hK.out _ _ (by first | exact HA.out.none | exact (HA.out.any rfl rfl rfl rfl).none) (fun hHeld => ?_)
      clear hK K
      refine norm_ (a' := ?_) ?_ ?_
      rotate_left
      · show Act.put _ (some 7) _ = _
        simp only [Act.put, List.setIfInBounds_toArray, List.set_cons_zero, List.set_cons_succ, i64_w, i32_w]
        rfl
      refine one_ (i := 12) (N := none) #[true, true, true, true, true, true, true, true, true, true, true, true, true] rfl rfl (by kernel_rfl) (by decide) (fun K hK => ?_)
      apply store_e; (case HH => first | exact HA.out | exact HA.out.any rfl rfl rfl rfl); (case hop => rfl); (case hN => rfl); (case hw => rfl); (case hx => rfl); (case hev => conv => lhs; whnf); (case hy => rfl); (case hm => repeat (first | exact Holds.At.here | apply Holds.At.there)); (case hl => rfl); (case hn => kernel_rfl); (case h1 => simp [Value.oneCell']); (case hi => simp); intro w1 HB_; simp only [splice, List.set_cons_zero, List.set_cons_succ] at HB_; clear HA; have HA := Aside0.mk HB_; clear HB_
      refine hK.out _ _ (by first | exact HA.out.none | exact (HA.out.any rfl rfl rfl rfl).none) (fun hHeld => ?_)
      clear hK K
      refine done_ (by kernel_rfl) ?_
      go_wp2_with (first     | ((with_reducible apply load1_); (case HH => first | exact HA.out | exact HA.out.any rfl rfl rfl rfl); (case ht => rfl); (case hx => rfl); (case hw => rfl); (case hm => repeat (first | exact List.Mem.head _ | refine List.Mem.tail _ ?_)); (case hv => exact rfl); simp only [Act.put, List.setIfInBounds_toArray, List.set_cons_zero, List.set_cons_succ])     | ((with_reducible apply loadN_ (n := 3)); (case HH => first | exact HA.out | exact HA.out.any rfl rfl rfl rfl); (case ht => rfl); (case hn => decide +kernel); (case hx => rfl); (case hw => rfl); (case hm => repeat (first | exact List.Mem.head _ | refine List.Mem.tail _ ?_)); (case hv => first | (simp only [List.drop_succ_cons, List.drop_zero, List.take_succ_cons, List.take_zero]; rfl) | rfl); (case hl => rfl); simp only [Act.put, List.setIfInBounds_toArray, List.set_cons_zero, List.set_cons_succ])     | ((with_reducible apply box_); (case HH => first | exact HA.out | exact HA.out.any rfl rfl rfl rfl); (case hw => rfl); (case hev => conv => lhs; whnf); (case hy => rfl); intro bx w1 HB_; simp only [Act.put, List.setIfInBounds_toArray, List.set_cons_zero, List.set_cons_succ]; clear HA; have HA := Aside0.mk HB_; clear HB_)     | ((with_reducible apply alloc_ (z := .agg #[.string ⟨#[]⟩, .string ⟨#[]⟩, .bool false])); (case HH => first | exact HA.out | exact HA.out.any rfl rfl rfl rfl); (case hw => rfl); (case hz => kernel_rfl); (case hx => rfl); intro bx w1 HB_; simp only [Act.put, List.setIfInBounds_toArray, List.set_cons_zero, List.set_cons_succ]; clear HA; have HA := Aside0.mk HB_; clear HB_)     | ((with_reducible apply store_); (case HH => first | exact HA.out | exact HA.out.any rfl rfl rfl rfl); (case hw => rfl); (case hx => rfl); (case hev => conv => lhs; whnf); (case hy => rfl); (case hm => repeat (first | exact Holds.At.here | apply Holds.At.there)); (case hl => rfl); (case hn => kernel_rfl); (case h1 => simp [Value.oneCell']); (case hi => simp); intro w1 HB_; simp only [splice, List.set_cons_zero, List.set_cons_succ] at HB_; clear HA; have HA := Aside0.mk HB_; clear HB_)     | (go_at_call 50; (with_reducible apply Calls.mono); (case h => exact number_at (by first | exact HA.out | exact HA.out.any rfl rfl rfl rfl) (by repeat (first | exact Holds.At.here | apply Holds.At.there)) HL.out HC.out (by first | exact pos_le _ _ _ | exact Nat.zero_le _ | omega) (by decide) (HS.out.mono (by simp)) hby.out); rintro e w1 ⟨rfl, HB_⟩; clear HA; have HA := Aside0.mk HB_; clear HB_)     | (go_at_call 52; (with_reducible apply Calls.mono); (case h => exact done_calls _ _ _ _ l0 w _ _ [] (by first | exact HA.out | exact HA.out.any rfl rfl rfl rfl) (by repeat (first | exact List.Mem.head _ | refine List.Mem.tail _ ?_))); rintro e w' ⟨rfl, ⟨nd, rfl⟩⟩)); (apply end_list [.cell 2 32, .tmp 3]; (case hres => rfl); (case hd => rfl); (case hvs => apply vcell (by first | exact HA.out | exact HA.out.any rfl rfl rfl rfl); (case hp => rfl); (case hm => repeat (first | exact List.Mem.head _ | refine List.Mem.tail _ ?_)); (case hag => rfl); (case hi => kernel_rfl); (case hvs => apply Vals.tmp; exact .nil)); (case hl => simp); (case hR => exact ⟨rfl, HA.out.below⟩))
    · skip
      apply alloc_e (z := .agg #[.string ⟨#[]⟩, .string ⟨#[]⟩, .bool false]); (case HH => first | exact HA.out | exact HA.out.any rfl rfl rfl rfl); (case hop => rfl); (case hN => rfl); (case hw => rfl); (case hz => kernel_rfl); (case hx => rfl); intro bn w1 HB_; clear HA; have HA := Aside0.mk HB_; clear HB_
      refine hK.out _ _ (by first | exact HA.out.none | exact (HA.out.any rfl rfl rfl rfl).none) (fun hHeld => ?_)
      clear hK K
      refine norm_ (a' := ?_) ?_ ?_
      rotate_left
      · show Act.put _ (some 7) _ = _
        simp only [Act.put, List.setIfInBounds_toArray, List.set_cons_zero, List.set_cons_succ, i64_w, i32_w]
        rfl
      refine one_ (i := 6) (N := some 27) #[true, true, true, true, true, true, true, false, true, true, false, true, false] rfl rfl (by kernel_rfl) (by decide) (fun K hK => ?_)
      apply call_e Try.func51 (args := #[.pointer (some ⟨bx, 0, none⟩), .int .i64 (leVal (nxt l0 (pos l0 (pos l0 (pos l0 0 1) 1) (leVal (nxt l0 (pos l0 0 1) 1)).toNat) 2))]); (case hname => kernel_rfl); (case hb => rfl); (case hop => rfl); (case hN => rfl); (case hw => rfl); (case hargs => ((try simp only [List.map_toArray, List.map_cons, List.map_nil]); first | done | rfl)); (case hcl => exact next_at (by first | exact HA.out | exact HA.out.any rfl rfl rfl rfl) (by repeat (first | exact Holds.At.here | apply Holds.At.there)) HL.out HC.out (by exact pos_le _ _ _) HK2.out.1 HK2.out.2 HS.out); rintro e w1 ⟨A2, d2, rfl, hd2, hs2, HB_⟩; refine ⟨_, rfl, ?_⟩; (clear HA; have HA := Aside0.mk HB_; clear HB_; have HS2 := Aside0.mk hs2; clear hs2 hd2)
      refine hK.out _ _ (by first | exact HA.out.none | exact (HA.out.any rfl rfl rfl rfl).none) (fun hHeld => ?_)
      clear hK K
      refine norm_ (a' := ?_) ?_ ?_
      rotate_left
      · show Act.put _ (some 27) _ = _
        simp only [Act.put, List.setIfInBounds_toArray, List.set_cons_zero, List.set_cons_succ, i64_w, i32_w]
        rfl
      refine take_ (i := 7) (N := some 28) (v := (.string (strOfNums (nxt l0 (pos l0 (pos l0 (pos l0 (pos l0 0 1) 1) (leVal (nxt l0 (pos l0 0 1) 1)).toNat) 2) (leVal (nxt l0 (pos l0 (pos l0 (pos l0 0 1) 1) (leVal (nxt l0 (pos l0 0 1) 1)).toNat) 2)).toNat)))) (a' := ?_) #[true, true, true, true, true, true, true, true, true, true, false, true, false] rfl rfl (by kernel_rfl) (fun _ _ _ h => h) (Or.inl ⟨by rfl, ?_⟩) (by first | exact HA.out.none | exact (HA.out.any rfl rfl rfl rfl).none) ?_ ?_
      · intro w' s0
        (apply run_text; (case hop => rfl); (case hev => conv => lhs; whnf); (case hv => rfl); (case hs => exact Try.underlying34); (case hd => exact Try.underlying9); (case he => exact Try.underlying5); (case hSr => exact HS2.out); (case hl => (have := nxt_le l0 (pos l0 (pos l0 (pos l0 (pos l0 0 1) 1) (leVal (nxt l0 (pos l0 0 1) 1)).toNat) 2) (leVal (nxt l0 (pos l0 (pos l0 (pos l0 0 1) 1) (leVal (nxt l0 (pos l0 0 1) 1)).toNat) 2)).toNat; have := HK2.out; omega)); (case HH => exact s0))
      rotate_left
      · simp only [Act.put, List.setIfInBounds_toArray, List.set_cons_zero, List.set_cons_succ, i64_w, i32_w]
        rfl
      refine pure_ (i := 10) (N := some 31) (v := ?_) (a' := ?_) #[true, true, true, true, true, true, true, true, true, true, true, true, false] rfl rfl (by kernel_rfl) (fun _ _ _ h => h) (Or.inl ⟨by rfl, ?_⟩) ?_ ?_
      rotate_left
      · intro w'
        go_simp
        with_reducible rfl
      rotate_left
      · simp only [Act.put, List.setIfInBounds_toArray, List.set_cons_zero, List.set_cons_succ, i64_w, i32_w]
        rfl
      refine one_ (i := 12) (N := none) #[true, true, true, true, true, true, true, true, true, true, true, true, true] rfl rfl (by kernel_rfl) (by decide) (fun K hK => ?_)
      apply store_e; (case HH => first | exact HA.out | exact HA.out.any rfl rfl rfl rfl); (case hop => rfl); (case hN => rfl); (case hw => rfl); (case hx => rfl); (case hev => conv => lhs; whnf); (case hy => rfl); (case hm => repeat (first | exact Holds.At.here | apply Holds.At.there)); (case hl => rfl); (case hn => kernel_rfl); (case h1 => simp [Value.oneCell']); (case hi => simp); intro w1 HB_; simp only [splice, List.set_cons_zero, List.set_cons_succ] at HB_; clear HA; have HA := Aside0.mk HB_; clear HB_
      refine hK.out _ _ (by first | exact HA.out.none | exact (HA.out.any rfl rfl rfl rfl).none) (fun hHeld => ?_)
      clear hK K
      refine done_ (by kernel_rfl) ?_
      go_wp2_with (first     | ((with_reducible apply load1_); (case HH => first | exact HA.out | exact HA.out.any rfl rfl rfl rfl); (case ht => rfl); (case hx => rfl); (case hw => rfl); (case hm => repeat (first | exact List.Mem.head _ | refine List.Mem.tail _ ?_)); (case hv => exact rfl); simp only [Act.put, List.setIfInBounds_toArray, List.set_cons_zero, List.set_cons_succ])     | ((with_reducible apply loadN_ (n := 3)); (case HH => first | exact HA.out | exact HA.out.any rfl rfl rfl rfl); (case ht => rfl); (case hn => decide +kernel); (case hx => rfl); (case hw => rfl); (case hm => repeat (first | exact List.Mem.head _ | refine List.Mem.tail _ ?_)); (case hv => first | (simp only [List.drop_succ_cons, List.drop_zero, List.take_succ_cons, List.take_zero]; rfl) | rfl); (case hl => rfl); simp only [Act.put, List.setIfInBounds_toArray, List.set_cons_zero, List.set_cons_succ])     | ((with_reducible apply box_); (case HH => first | exact HA.out | exact HA.out.any rfl rfl rfl rfl); (case hw => rfl); (case hev => conv => lhs; whnf); (case hy => rfl); intro bx w1 HB_; simp only [Act.put, List.setIfInBounds_toArray, List.set_cons_zero, List.set_cons_succ]; clear HA; have HA := Aside0.mk HB_; clear HB_)     | ((with_reducible apply alloc_ (z := .agg #[.string ⟨#[]⟩, .string ⟨#[]⟩, .bool false])); (case HH => first | exact HA.out | exact HA.out.any rfl rfl rfl rfl); (case hw => rfl); (case hz => kernel_rfl); (case hx => rfl); intro bx w1 HB_; simp only [Act.put, List.setIfInBounds_toArray, List.set_cons_zero, List.set_cons_succ]; clear HA; have HA := Aside0.mk HB_; clear HB_)     | ((with_reducible apply store_); (case HH => first | exact HA.out | exact HA.out.any rfl rfl rfl rfl); (case hw => rfl); (case hx => rfl); (case hev => conv => lhs; whnf); (case hy => rfl); (case hm => repeat (first | exact Holds.At.here | apply Holds.At.there)); (case hl => rfl); (case hn => kernel_rfl); (case h1 => simp [Value.oneCell']); (case hi => simp); intro w1 HB_; simp only [splice, List.set_cons_zero, List.set_cons_succ] at HB_; clear HA; have HA := Aside0.mk HB_; clear HB_)     | (go_at_call 50; (with_reducible apply Calls.mono); (case h => exact number_at (by first | exact HA.out | exact HA.out.any rfl rfl rfl rfl) (by repeat (first | exact Holds.At.here | apply Holds.At.there)) HL.out HC.out (by first | exact pos_le _ _ _ | exact Nat.zero_le _ | omega) (by decide) (HS.out.mono (by simp)) hby.out); rintro e w1 ⟨rfl, HB_⟩; clear HA; have HA := Aside0.mk HB_; clear HB_)     | (go_at_call 52; (with_reducible apply Calls.mono); (case h => exact done_calls _ _ _ _ l0 w _ _ [] (by first | exact HA.out | exact HA.out.any rfl rfl rfl rfl) (by repeat (first | exact List.Mem.head _ | refine List.Mem.tail _ ?_))); rintro e w' ⟨rfl, ⟨nd, rfl⟩⟩)); (apply end_list [.cell 2 32, .tmp 3]; (case hres => rfl); (case hd => rfl); (case hvs => apply vcell (by first | exact HA.out | exact HA.out.any rfl rfl rfl rfl); (case hp => rfl); (case hm => repeat (first | exact List.Mem.head _ | refine List.Mem.tail _ ?_)); (case hag => rfl); (case hi => kernel_rfl); (case hvs => apply Vals.tmp; exact .nil)); (case hl => simp); (case hR => exact ⟨rfl, HA.out.below⟩))
  · skip
    apply alloc_e (z := .agg #[.string ⟨#[]⟩, .string ⟨#[]⟩, .bool false]); (case HH => first | exact HA.out | exact HA.out.any rfl rfl rfl rfl); (case hop => rfl); (case hN => rfl); (case hw => rfl); (case hz => kernel_rfl); (case hx => rfl); intro bn w1 HB_; clear HA; have HA := Aside0.mk HB_; clear HB_
    refine hK.out _ _ (by first | exact HA.out.none | exact (HA.out.any rfl rfl rfl rfl).none) (fun hHeld => ?_)
    clear hK K
    refine norm_ (a' := ?_) ?_ ?_
    rotate_left
    · show Act.put _ (some 7) _ = _
      simp only [Act.put, List.setIfInBounds_toArray, List.set_cons_zero, List.set_cons_succ, i64_w, i32_w]
      rfl
    refine one_ (i := 5) (N := some 26) #[true, true, true, true, true, true, false, false, true, true, false, true, false] rfl rfl (by kernel_rfl) (by decide) (fun K hK => ?_)
    apply call_e Try.func50 (args := #[.pointer (some ⟨bx, 0, none⟩), .int .i64 2]); (case hname => kernel_rfl); (case hb => rfl); (case hop => rfl); (case hN => rfl); (case hw => rfl); (case hargs => ((try simp only [List.map_toArray, List.map_cons, List.map_nil]); first | done | rfl)); (case hcl => exact number_at (g := bx) (k := 2) (by first | exact HA.out | exact HA.out.any rfl rfl rfl rfl) (by repeat (first | exact Holds.At.here | apply Holds.At.there)) HL.out HC.out (by first | exact pos_le _ _ _ | exact Nat.zero_le _ | omega) (by decide) (HS.out.mono (by simp)) hby.out); rintro e w1 ⟨rfl, HB_⟩; refine ⟨_, rfl, ?_⟩; (clear HA; have HA := Aside0.mk HB_; clear HB_)
    refine hK.out _ _ (by first | exact HA.out.none | exact (HA.out.any rfl rfl rfl rfl).none) (fun hHeld => ?_)
    clear hK K
    refine norm_ (a' := ?_) ?_ ?_
    rotate_left
    · show Act.put _ (some 26) _ = _
      simp only [Act.put, List.setIfInBounds_toArray, List.set_cons_zero, List.set_cons_succ, i64_w, i32_w]
      rfl
    refine one_ (i := 6) (N := some 27) #[true, true, true, true, true, true, true, false, true, true, false, true, false] rfl rfl (by kernel_rfl) (by decide) (fun K hK => ?_)
    apply call_e Try.func51 (args := #[.pointer (some ⟨bx, 0, none⟩), .int .i64 (leVal (nxt l0 (pos l0 (pos l0 (pos l0 0 1) 1) (leVal (nxt l0 (pos l0 0 1) 1)).toNat) 2))]); (case hname => kernel_rfl); (case hb => rfl); (case hop => rfl); (case hN => rfl); (case hw => rfl); (case hargs => ((try simp only [List.map_toArray, List.map_cons, List.map_nil]); first | done | rfl)); (case hcl => exact next_at (by first | exact HA.out | exact HA.out.any rfl rfl rfl rfl) (by repeat (first | exact Holds.At.here | apply Holds.At.there)) HL.out HC.out (by exact pos_le _ _ _) HK2.out.1 HK2.out.2 HS.out); rintro e w1 ⟨A2, d2, rfl, hd2, hs2, HB_⟩; refine ⟨_, rfl, ?_⟩; (clear HA; have HA := Aside0.mk HB_; clear HB_; have HS2 := Aside0.mk hs2; clear hs2 hd2)
    refine hK.out _ _ (by first | exact HA.out.none | exact (HA.out.any rfl rfl rfl rfl).none) (fun hHeld => ?_)
    clear hK K
    refine norm_ (a' := ?_) ?_ ?_
    rotate_left
    · show Act.put _ (some 27) _ = _
      simp only [Act.put, List.setIfInBounds_toArray, List.set_cons_zero, List.set_cons_succ, i64_w, i32_w]
      rfl
    refine take_ (i := 7) (N := some 28) (v := (.string (strOfNums (nxt l0 (pos l0 (pos l0 (pos l0 (pos l0 0 1) 1) (leVal (nxt l0 (pos l0 0 1) 1)).toNat) 2) (leVal (nxt l0 (pos l0 (pos l0 (pos l0 0 1) 1) (leVal (nxt l0 (pos l0 0 1) 1)).toNat) 2)).toNat)))) (a' := ?_) #[true, true, true, true, true, true, true, true, true, true, false, true, false] rfl rfl (by kernel_rfl) (fun _ _ _ h => h) (Or.inl ⟨by rfl, ?_⟩) (by first | exact HA.out.none | exact (HA.out.any rfl rfl rfl rfl).none) ?_ ?_
    · intro w' s0
      (apply run_text; (case hop => rfl); (case hev => conv => lhs; whnf); (case hv => rfl); (case hs => exact Try.underlying34); (case hd => exact Try.underlying9); (case he => exact Try.underlying5); (case hSr => exact HS2.out); (case hl => (have := nxt_le l0 (pos l0 (pos l0 (pos l0 (pos l0 0 1) 1) (leVal (nxt l0 (pos l0 0 1) 1)).toNat) 2) (leVal (nxt l0 (pos l0 (pos l0 (pos l0 0 1) 1) (leVal (nxt l0 (pos l0 0 1) 1)).toNat) 2)).toNat; have := HK2.out; omega)); (case HH => exact s0))
    rotate_left
    · simp only [Act.put, List.setIfInBounds_toArray, List.set_cons_zero, List.set_cons_succ, i64_w, i32_w]
      rfl
    refine pure_ (i := 10) (N := some 31) (v := ?_) (a' := ?_) #[true, true, true, true, true, true, true, true, true, true, true, true, false] rfl rfl (by kernel_rfl) (fun _ _ _ h => h) (Or.inl ⟨by rfl, ?_⟩) ?_ ?_
    rotate_left
    · intro w'
      go_simp
      with_reducible rfl
    rotate_left
    · simp only [Act.put, List.setIfInBounds_toArray, List.set_cons_zero, List.set_cons_succ, i64_w, i32_w]
      rfl
    refine one_ (i := 12) (N := none) #[true, true, true, true, true, true, true, true, true, true, true, true, true] rfl rfl (by kernel_rfl) (by decide) (fun K hK => ?_)
    apply store_e; (case HH => first | exact HA.out | exact HA.out.any rfl rfl rfl rfl); (case hop => rfl); (case hN => rfl); (case hw => rfl); (case hx => rfl); (case hev => conv => lhs; whnf); (case hy => rfl); (case hm => repeat (first | exact Holds.At.here | apply Holds.At.there)); (case hl => rfl); (case hn => kernel_rfl); (case h1 => simp [Value.oneCell']); (case hi => simp); intro w1 HB_; simp only [splice, List.set_cons_zero, List.set_cons_succ] at HB_; clear HA; have HA := Aside0.mk HB_; clear HB_
    refine hK.out _ _ (by first | exact HA.out.none | exact (HA.out.any rfl rfl rfl rfl).none) (fun hHeld => ?_)
    clear hK K
    refine done_ (by kernel_rfl) ?_
    go_wp2_with (first     | ((with_reducible apply load1_); (case HH => first | exact HA.out | exact HA.out.any rfl rfl rfl rfl); (case ht => rfl); (case hx => rfl); (case hw => rfl); (case hm => repeat (first | exact List.Mem.head _ | refine List.Mem.tail _ ?_)); (case hv => exact rfl); simp only [Act.put, List.setIfInBounds_toArray, List.set_cons_zero, List.set_cons_succ])     | ((with_reducible apply loadN_ (n := 3)); (case HH => first | exact HA.out | exact HA.out.any rfl rfl rfl rfl); (case ht => rfl); (case hn => decide +kernel); (case hx => rfl); (case hw => rfl); (case hm => repeat (first | exact List.Mem.head _ | refine List.Mem.tail _ ?_)); (case hv => first | (simp only [List.drop_succ_cons, List.drop_zero, List.take_succ_cons, List.take_zero]; rfl) | rfl); (case hl => rfl); simp only [Act.put, List.setIfInBounds_toArray, List.set_cons_zero, List.set_cons_succ])     | ((with_reducible apply box_); (case HH => first | exact HA.out | exact HA.out.any rfl rfl rfl rfl); (case hw => rfl); (case hev => conv => lhs; whnf); (case hy => rfl); intro bx w1 HB_; simp only [Act.put, List.setIfInBounds_toArray, List.set_cons_zero, List.set_cons_succ]; clear HA; have HA := Aside0.mk HB_; clear HB_)     | ((with_reducible apply alloc_ (z := .agg #[.string ⟨#[]⟩, .string ⟨#[]⟩, .bool false])); (case HH => first | exact HA.out | exact HA.out.any rfl rfl rfl rfl); (case hw => rfl); (case hz => kernel_rfl); (case hx => rfl); intro bx w1 HB_; simp only [Act.put, List.setIfInBounds_toArray, List.set_cons_zero, List.set_cons_succ]; clear HA; have HA := Aside0.mk HB_; clear HB_)     | ((with_reducible apply store_); (case HH => first | exact HA.out | exact HA.out.any rfl rfl rfl rfl); (case hw => rfl); (case hx => rfl); (case hev => conv => lhs; whnf); (case hy => rfl); (case hm => repeat (first | exact Holds.At.here | apply Holds.At.there)); (case hl => rfl); (case hn => kernel_rfl); (case h1 => simp [Value.oneCell']); (case hi => simp); intro w1 HB_; simp only [splice, List.set_cons_zero, List.set_cons_succ] at HB_; clear HA; have HA := Aside0.mk HB_; clear HB_)     | (go_at_call 50; (with_reducible apply Calls.mono); (case h => exact number_at (by first | exact HA.out | exact HA.out.any rfl rfl rfl rfl) (by repeat (first | exact Holds.At.here | apply Holds.At.there)) HL.out HC.out (by first | exact pos_le _ _ _ | exact Nat.zero_le _ | omega) (by decide) (HS.out.mono (by simp)) hby.out); rintro e w1 ⟨rfl, HB_⟩; clear HA; have HA := Aside0.mk HB_; clear HB_)     | (go_at_call 52; (with_reducible apply Calls.mono); (case h => exact done_calls _ _ _ _ l0 w _ _ [] (by first | exact HA.out | exact HA.out.any rfl rfl rfl rfl) (by repeat (first | exact List.Mem.head _ | refine List.Mem.tail _ ?_))); rintro e w' ⟨rfl, ⟨nd, rfl⟩⟩)); (apply end_list [.cell 2 32, .tmp 3]; (case hres => rfl); (case hd => rfl); (case hvs => apply vcell (by first | exact HA.out | exact HA.out.any rfl rfl rfl rfl); (case hp => rfl); (case hm => repeat (first | exact List.Mem.head _ | refine List.Mem.tail _ ?_)); (case hag => rfl); (case hi => kernel_rfl); (case hvs => apply Vals.tmp; exact .nil)); (case hl => simp); (case hR => exact ⟨rfl, HA.out.below⟩))
/-- What bytes are read as_, as_ a node. -/
def unpackN (l0 : List Int) (rt : Bool) : ByteArray × ByteArray × Bool × Bool :=
  if (leVal (nxt l0 0 1) = 1 ∨ leVal (nxt l0 0 1) = 2) ∧ (pos l0 (pos l0 (pos l0 (pos l0 (pos l0 0 1) 1) (leVal (nxt l0 (pos l0 0 1) 1)).toNat) 2) (leVal (nxt l0 (pos l0 (pos l0 (pos l0 0 1) 1) (leVal (nxt l0 (pos l0 0 1) 1)).toNat) 2)).toNat) = l0.length ∧ rt = true then (strOfNums (nxt l0 (pos l0 (pos l0 0 1) 1) (leVal (nxt l0 (pos l0 0 1) 1)).toNat), strOfNums (nxt l0 (pos l0 (pos l0 (pos l0 (pos l0 0 1) 1) (leVal (nxt l0 (pos l0 0 1) 1)).toNat) 2) (leVal (nxt l0 (pos l0 (pos l0 (pos l0 0 1) 1) (leVal (nxt l0 (pos l0 0 1) 1)).toNat) 2)).toNat), decide (leVal (nxt l0 0 1) = 2), true) else (⟨#[]⟩, ⟨#[]⟩, false, false)
def byteB (l : List Int) : Bool := l.all fun x => decide (0 ≤ x) && decide (x < 256)
theorem byteB_spec {l : List Int} (h : byteB l = true) : Bytes l := fun x hx => by
  have := List.all_eq_true.1 h x hx
  simpa using this
def node_Unpack.f (l0 : List Int) : Option (ByteArray × ByteArray × Bool × Bool) :=
  if byteB l0 = true ∧ l0.length ≤ 281474976710656 then (node_Right.f (strOfNums (nxt l0 (pos l0 (pos l0 0 1) 1) (leVal (nxt l0 (pos l0 0 1) 1)).toNat)) (strOfNums (nxt l0 (pos l0 (pos l0 (pos l0 (pos l0 0 1) 1) (leVal (nxt l0 (pos l0 0 1) 1)).toNat) 2) (leVal (nxt l0 (pos l0 (pos l0 (pos l0 0 1) 1) (leVal (nxt l0 (pos l0 0 1) 1)).toNat) 2)).toNat)) (decide (leVal (nxt l0 0 1) = 2))).bind fun rt => some (unpackN l0 rt) else none
theorem node_Unpack.calls (A0 : Option Addr) (c0 : Nat) (l0 : List Int) (r1 : ByteArray) (r2 : ByteArray) (r3 : Bool) (r4 : Bool) (w : World) (hr0 : Kd.C (Kd.int .u8) w A0 l0.length l0) (hc0 : l0.length ≤ c0) (h : node_Unpack.f l0 = some (r1, r2, r3, r4)) :
    Calls Try.prog 26 #[.slice A0 l0.length c0] w fun e w' => e = .returned (.tuple #[.agg #[.string r1, .string r2, .bool r3], .bool r4]) ∧ Below w.heap.size w w' := by
  unfold node_Unpack.f at h
  by_cases hbl : byteB l0 = true ∧ l0.length ≤ 281474976710656
  rotate_left
  · rw [if_neg hbl] at h
    cases h
  rw [if_pos hbl] at h
  obtain ⟨hb, hl⟩ := hbl
  replace hb := byteB_spec hb
  obtain ⟨rt, hrt, h⟩ := Option.bind_eq_some_iff.mp h
  replace h := Option.some.inj h
  unfold unpackN at h
  have hB : ∀ (a b : Int), a = b → (a == b) = true ∧ (a != b) = false := fun a b h => by subst h; simp
  have hN : ∀ (a b : Int), ¬ a = b → (a == b) = false ∧ (a != b) = true := fun a b h => by simp [h]
  by_cases h1 : leVal (nxt l0 0 1) = 1
  · have h2 : ¬ leVal (nxt l0 0 1) = 2 := by omega
    have hd : decide (leVal (nxt l0 0 1) = 2) = false := decide_eq_false h2
    rw [hd] at h hrt
    by_cases h3 : (pos l0 (pos l0 (pos l0 (pos l0 (pos l0 0 1) 1) (leVal (nxt l0 (pos l0 0 1) 1)).toNat) 2) (leVal (nxt l0 (pos l0 (pos l0 (pos l0 0 1) 1) (leVal (nxt l0 (pos l0 0 1) 1)).toNat) 2)).toNat) = l0.length
    rotate_left
    · rw [if_neg (fun hh => h3 hh.2.1)] at h
      simp only [Prod.mk.injEq] at h
      obtain ⟨rfl, rfl, rfl, rfl⟩ := h
      exact unpack_d1 A0 c0 l0 w hr0 hc0 hl hb (hB _ _ h1).1 (hB _ _ h1).2 (hN _ _ h2).1 (hN _ _ h2).2 (hN _ _ (by omega)).1
    cases rt with
    | true =>
      rw [if_pos ⟨.inl h1, h3, rfl⟩] at h
      simp only [Prod.mk.injEq] at h
      obtain ⟨rfl, rfl, rfl, rfl⟩ := h
      exact unpack_ok1 A0 c0 l0 w hr0 hc0 hl hb (hB _ _ h1).1 (hB _ _ h1).2 (hN _ _ h2).1 (hN _ _ h2).2 (hB _ _ (by omega)).1 hrt
    | false =>
      rw [if_neg (by simp)] at h
      simp only [Prod.mk.injEq] at h
      obtain ⟨rfl, rfl, rfl, rfl⟩ := h
      exact unpack_r1 A0 c0 l0 w hr0 hc0 hl hb (hB _ _ h1).1 (hB _ _ h1).2 (hN _ _ h2).1 (hN _ _ h2).2 (hB _ _ (by omega)).1 hrt
  · by_cases h2 : leVal (nxt l0 0 1) = 2
    · have hd : decide (leVal (nxt l0 0 1) = 2) = true := decide_eq_true h2
      rw [hd] at h hrt
      by_cases h3 : (pos l0 (pos l0 (pos l0 (pos l0 (pos l0 0 1) 1) (leVal (nxt l0 (pos l0 0 1) 1)).toNat) 2) (leVal (nxt l0 (pos l0 (pos l0 (pos l0 0 1) 1) (leVal (nxt l0 (pos l0 0 1) 1)).toNat) 2)).toNat) = l0.length
      rotate_left
      · rw [if_neg (fun hh => h3 hh.2.1)] at h
        simp only [Prod.mk.injEq] at h
        obtain ⟨rfl, rfl, rfl, rfl⟩ := h
        exact unpack_d2 A0 c0 l0 w hr0 hc0 hl hb (hN _ _ h1).1 (hN _ _ h1).2 (hB _ _ h2).1 (hB _ _ h2).2 (hN _ _ (by omega)).1
      cases rt with
      | true =>
        rw [if_pos ⟨.inr h2, h3, rfl⟩] at h
        simp only [Prod.mk.injEq] at h
        obtain ⟨rfl, rfl, rfl, rfl⟩ := h
        exact unpack_ok2 A0 c0 l0 w hr0 hc0 hl hb (hN _ _ h1).1 (hN _ _ h1).2 (hB _ _ h2).1 (hB _ _ h2).2 (hB _ _ (by omega)).1 hrt
      | false =>
        rw [if_neg (by simp)] at h
        simp only [Prod.mk.injEq] at h
        obtain ⟨rfl, rfl, rfl, rfl⟩ := h
        exact unpack_r2 A0 c0 l0 w hr0 hc0 hl hb (hN _ _ h1).1 (hN _ _ h1).2 (hB _ _ h2).1 (hB _ _ h2).2 (hB _ _ (by omega)).1 hrt
    · rw [if_neg (fun hh => hh.1.elim h1 h2)] at h
      simp only [Prod.mk.injEq] at h
      obtain ⟨rfl, rfl, rfl, rfl⟩ := h
      exact unpack_k A0 c0 l0 w hr0 hc0 hl hb (hN _ _ h1).1 (hN _ _ h1).2 (hN _ _ h2).1 (hN _ _ h2).2
end Go.Proofs.Ytakchpeohmkpkaa.Q
