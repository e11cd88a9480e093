/- NodePacks, walked by hand. -/
import Derived.Test.YtakchpeohmkpkaaQ6
import Derived.Test.YtakchpeohmkpkaaQ7
import Derived.Test.YtakchpeohmkpkaaQ8
import Derived.Test.YtakchpeohmkpkaaH4
import Derived.Test.YtakchpeohmkpkaaH5
import Derived.Test.YtakchpeohmkpkaaK10
namespace Go.Proofs.Ytakchpeohmkpkaa.Q
open Go.RowKit Go.Proofs.YtakchpeohmkpkaaW.PrintWords Go.Proofs.YtakchpeohmkpkaaW.PrintLast Go.Proofs.YtakchpeohmkpkaaW.PrintMore Go.Proofs.Ytakchpeohmkpkaa.Sep
set_option linter.unusedVariables false
set_option linter.unusedSimpArgs false
theorem run_text_ {P : Program} {W : World} {a : Act} {oi : Oper} {src dst e : TypeId} {x : Operand} {A : Option Addr} {n c : Nat} {xs : List Int} (hop : oi.op = .convert src dst x) (hev : a.eval x = .slice A n c) (hs : P.underlying src = some (.slice e)) (he : P.underlying e = some (.int .u8)) (hd : P.underlying dst = some .string)
    (hC : (Kd.int .u8).C W A n xs) : (execOp a.eval oi).run P W = .ok (.value (.string (strOfNums xs))) W := by
  unfold execOp
  simp [hop, hev, Kd.C_string hs he hd hC]
set_option maxHeartbeats 8000000 in
set_option maxRecDepth 100000 in
theorem packs_walk (k v : ByteArray) (g : Bool) (a b : Int) (xs ms : List Int) (e1 e2 : Int) (rt : Bool) (sz : Int) (w : World) (p1 : node_Pack.f k v g = some (xs, e1)) (p2 : pumiceref06_Pack.f k v g = some (xs, e1)) (m1 : node_Mark.f a b = some (ms, e2)) (m2 : pumiceref06_Mark.f 9 a b = some (ms, e2))
    (r1 : node_Right.f k v g = some rt) (r2 : pumiceref06_Right.f k v g = some rt) (s1 : node_Size.f k v g = some sz) (s2 : pumiceref06_Size.f k v g = some sz) (al : pumicelaw06_alive.f = some true) :
    Calls Try.prog 4 #[.agg #[.string k, .string v, .bool g], .int .u64 a, .int .i64 b] w fun e w' => e = .returned (.bool true) ∧ Below w.heap.size w w' := by
  have P1 := Aside0.mk p1
  have P2 := Aside0.mk p2
  have M1 := Aside0.mk m1
  have M2 := Aside0.mk m2
  have R1 := Aside0.mk r1
  have R2 := Aside0.mk r2
  have S1 := Aside0.mk s1
  have S2 := Aside0.mk s2
  have AL := Aside0.mk al
  have HA := Aside0.mk (Holds.start w)
  clear p1 p2 m1 m2 r1 r2 s1 s2 al
  go_enter Try.func4, Try.ntmps4
  go_wp2_with (first
    | ((with_reducible apply box_); (case HH => first | exact HA.out | exact HA.out.any rfl rfl rfl rfl); (case hw => rfl); (case hev => conv => lhs; whnf); (case hy => rfl); intro bx w1 HB_; simp only [Act.put, List.setIfInBounds_toArray, List.set_cons_zero, List.set_cons_succ]; clear HA; have HA := Aside0.mk HB_; clear HB_)
    | ((with_reducible apply loadN_ (n := 3)); (case HH => first | exact HA.out | exact HA.out.any rfl rfl rfl rfl); (case ht => rfl); (case hn => decide +kernel); (case hx => rfl); (case hw => rfl); (case hm => first | exact List.Mem.head _ | exact List.Mem.tail _ (List.Mem.head _) | exact List.Mem.tail _ (List.Mem.tail _ (List.Mem.head _)) | exact List.Mem.tail _ (List.Mem.tail _ (List.Mem.tail _ (List.Mem.head _))) | exact List.Mem.tail _ (List.Mem.tail _ (List.Mem.tail _ (List.Mem.tail _ (List.Mem.head _)))) | exact List.Mem.tail _ (List.Mem.tail _ (List.Mem.tail _ (List.Mem.tail _ (List.Mem.tail _ (List.Mem.head _))))) | exact List.Mem.tail _ (List.Mem.tail _ (List.Mem.tail _ (List.Mem.tail _ (List.Mem.tail _ (List.Mem.tail _ (List.Mem.head _)))))) | exact List.Mem.tail _ (List.Mem.tail _ (List.Mem.tail _ (List.Mem.tail _ (List.Mem.tail _ (List.Mem.tail _ (List.Mem.tail _ (List.Mem.head _))))))) | exact List.Mem.tail _ (List.Mem.tail _ (List.Mem.tail _ (List.Mem.tail _ (List.Mem.tail _ (List.Mem.tail _ (List.Mem.tail _ (List.Mem.tail _ (List.Mem.head _))))))))); (case hv => first | (simp only [List.drop_succ_cons, List.drop_zero, List.take_succ_cons, List.take_zero]; rfl) | rfl); (case hl => rfl); simp only [Act.put, List.setIfInBounds_toArray, List.set_cons_zero, List.set_cons_succ])
    | (go_at_call 18; (with_reducible apply Calls.mono); (case h => exact node_Pack.calls _ _ _ _ _ _ P1.out); rintro e w1 ⟨v1, rfl, hr_, hb_⟩; have hv_ := Kd.R_V (base' := 0) hr_; clear hr_; obtain ⟨A1, c1, rfl, hl1, hf1⟩ := hv_; have F1 := Aside0.mk hf1; clear hf1 hl1; have HB_ := HA.out.call1 hb_ rfl rfl rfl rfl; clear hb_ HA; have HA := Aside0.mk HB_; clear HB_; have H1 := Aside0.mk (Holds.start w1))
    | (go_at_call 19; (with_reducible apply Calls.mono); (case h => exact pumiceref06_Pack.calls _ _ _ _ _ _ P2.out); rintro e w2 ⟨v2, rfl, hv_, hb_⟩; obtain ⟨A2, c2, rfl, hl2, hf2⟩ := hv_; have F2 := Aside0.mk hf2; clear hf2 hl2; have HB_ := HA.out.call1 hb_ rfl rfl rfl rfl; have h1_ := H1.out.call1 hb_ rfl rfl rfl rfl; clear hb_ HA H1; have HA := Aside0.mk HB_; have H1 := Aside0.mk h1_; clear HB_ h1_; have H2 := Aside0.mk (Holds.start w2))
    | (go_at_call 20; (with_reducible apply Calls.mono); (case h => exact node_Mark.calls _ _ _ _ _ M1.out); rintro e w3 ⟨v3, rfl, hr_, hb_⟩; have hv_ := Kd.R_V (base' := 0) hr_; clear hr_; obtain ⟨A3, c3, rfl, hl3, hf3⟩ := hv_; have F3 := Aside0.mk hf3; clear hf3 hl3; have HB_ := HA.out.call1 hb_ rfl rfl rfl rfl; have h1_ := H1.out.call1 hb_ rfl rfl rfl rfl; have h2_ := H2.out.call1 hb_ rfl rfl rfl rfl; clear hb_ HA H1 H2; have HA := Aside0.mk HB_; have H1 := Aside0.mk h1_; have H2 := Aside0.mk h2_; clear HB_ h1_ h2_; have H3 := Aside0.mk (Holds.start w3))
    | (go_at_call 21; (with_reducible apply Calls.mono); (case h => exact pumiceref06_Mark.calls 9 _ _ _ _ _ M2.out); rintro e w4 ⟨v4, rfl, hr_, hb_⟩; have hv_ := Kd.R_V (base' := 0) hr_; clear hr_; obtain ⟨A4, c4, rfl, hl4, hf4⟩ := hv_; have F4 := Aside0.mk hf4; clear hf4 hl4; have HB_ := HA.out.call1 hb_ rfl rfl rfl rfl; have h1_ := H1.out.call1 hb_ rfl rfl rfl rfl; have h2_ := H2.out.call1 hb_ rfl rfl rfl rfl; have h3_ := H3.out.call1 hb_ rfl rfl rfl rfl; clear hb_ HA H1 H2 H3; have HA := Aside0.mk HB_; have H1 := Aside0.mk h1_; have H2 := Aside0.mk h2_; have H3 := Aside0.mk h3_; clear HB_ h1_ h2_ h3_; have HS := Aside0.mk (Holds.start w4)))
  have X1 : Aside0 (Src (Value.int .u8) w4 [] A1 xs) := Aside0.mk (Src.of_C (h1 := fun _ => rfl) (Kd.F_now (Kd.F_below F1.out H1.out.below)))
  have X2 : Aside0 (Src (Value.int .u8) w4 [] A2 xs) := Aside0.mk (Src.of_C (h1 := fun _ => rfl) (Kd.F_now (Kd.F_below F2.out H2.out.below)))
  have X3 : Aside0 (Src (Value.int .u8) w4 [] A3 ms) := Aside0.mk (Src.of_C (h1 := fun _ => rfl) (Kd.F_now (Kd.F_below F3.out H3.out.below)))
  have X4 : Aside0 (Src (Value.int .u8) w4 [] A4 ms) := Aside0.mk (Src.of_C (h1 := fun _ => rfl) (Kd.F_now F4.out))
  have L1 : Aside0 (xs.length ≤ 9223372036854775807) := Aside0.mk (Kd.F_now F1.out).2.1
  have L3 : Aside0 (ms.length ≤ 9223372036854775807) := Aside0.mk (Kd.F_now F3.out).2.1
  have BX := Aside0.mk (HA.out.has _ (List.Mem.head _))
  have LT := Aside0.mk (HA.out.lt (List.Mem.head _))
  clear F1 F2 F3 F4 H1 H2 H3
  refine start_H (by first | exact HS.out | exact HS.out.any rfl rfl rfl rfl) (n := 40) [] #[false, false, false, false, false, false, false, false, false, false, false, false, false, false, false, false, false, false, false, false, false, false, false, false, false, false, false, false, false, false, false, false, false, false, false, false, false, false, false, false] (by kernel_rfl) rfl rfl ?_
  refine take_ (i := 0) (N := some 37) (v := (.agg #[.string k, .string v, .bool g])) (a' := ?_) #[true, false, false, false, false, false, false, false, false, false, false, false, false, false, false, false, false, false, false, false, false, false, false, false, false, false, false, false, false, false, false, false, false, false, false, false, false, false, false, false] rfl rfl (by kernel_rfl) (fun _ _ _ h => h) (Or.inl ⟨by rfl, ?_⟩) (by first | exact HS.out | exact HS.out.any rfl rfl rfl rfl | exact (HS.out.any rfl rfl rfl rfl).tail | exact (HS.out.any rfl rfl rfl rfl).tail.tail | exact (HS.out.any rfl rfl rfl rfl).tail.tail.tail) ?_ ?_
  · intro w' s0
    (exact run_loadN (n := 3) rfl (manyB_of (by decide +kernel) (by decide +kernel)) rfl ((s0.below.block _ LT.out).trans BX.out) rfl rfl)
  rotate_left
  · simp only [Act.put, List.setIfInBounds_toArray, List.set_cons_zero, List.set_cons_succ, i64_w, i32_w]
    rfl
  refine take_ (i := 2) (N := some 39) (v := (.agg #[.string k, .string v, .bool g])) (a' := ?_) #[true, false, true, false, false, false, false, false, false, false, false, false, false, false, false, false, false, false, false, false, false, false, false, false, false, false, false, false, false, false, false, false, false, false, false, false, false, false, false, false] rfl rfl (by kernel_rfl) (fun _ _ _ h => h) (Or.inl ⟨by rfl, ?_⟩) (by first | exact HS.out | exact HS.out.any rfl rfl rfl rfl | exact (HS.out.any rfl rfl rfl rfl).tail | exact (HS.out.any rfl rfl rfl rfl).tail.tail | exact (HS.out.any rfl rfl rfl rfl).tail.tail.tail) ?_ ?_
  · intro w' s0
    (exact run_loadN (n := 3) rfl (manyB_of (by decide +kernel) (by decide +kernel)) rfl ((s0.below.block _ LT.out).trans BX.out) rfl rfl)
  rotate_left
  · simp only [Act.put, List.setIfInBounds_toArray, List.set_cons_zero, List.set_cons_succ, i64_w, i32_w]
    rfl
  refine one_ (i := 1) (N := some 38) #[true, true, true, false, false, false, false, false, false, false, false, false, false, false, false, false, false, false, false, false, false, false, false, false, false, false, false, false, false, false, false, false, false, false, false, false, false, false, false, false] rfl rfl (by kernel_rfl) (by decide) (fun K hK => ?_)
  apply call_e Try.func22 (args := #[.agg #[.string k, .string v, .bool g]]); (case hname => kernel_rfl); (case hb => rfl); (case hop => rfl); (case hN => rfl); (case hw => rfl); (case hargs => ((try simp only [List.map_toArray, List.map_cons, List.map_nil]); first | done | rfl)); (case hcl => exact node_Right.calls k v g _ _ R1.out); rintro e w1 ⟨rfl, hb_⟩; refine ⟨_, rfl, ?_⟩; (have HB_ := HS.out.call1 hb_ rfl rfl rfl rfl; clear hb_ HS; have HS := Aside0.mk HB_; clear HB_)
  refine hK.out _ _ (by first | exact HS.out | exact HS.out.any rfl rfl rfl rfl | exact (HS.out.any rfl rfl rfl rfl).tail | exact (HS.out.any rfl rfl rfl rfl).tail.tail | exact (HS.out.any rfl rfl rfl rfl).tail.tail.tail) (fun hHeld => ?_)
  clear hK K
  refine norm_ (a' := ?_) ?_ ?_
  rotate_left
  · show Act.put _ (some 38) _ = _
    simp only [Act.put, List.setIfInBounds_toArray, List.set_cons_zero, List.set_cons_succ, i64_w, i32_w]
    rfl
  refine one_ (i := 3) (N := some 40) #[true, true, true, true, false, false, false, false, false, false, false, false, false, false, false, false, false, false, false, false, false, false, false, false, false, false, false, false, false, false, false, false, false, false, false, false, false, false, false, false] rfl rfl (by kernel_rfl) (by decide) (fun K hK => ?_)
  apply call_e Try.func23 (args := #[.agg #[.string k, .string v, .bool g]]); (case hname => kernel_rfl); (case hb => rfl); (case hop => rfl); (case hN => rfl); (case hw => rfl); (case hargs => ((try simp only [List.map_toArray, List.map_cons, List.map_nil]); first | done | rfl)); (case hcl => exact pumiceref06_Right.calls k v g _ _ R2.out); rintro e w1 ⟨rfl, hb_⟩; refine ⟨_, rfl, ?_⟩; (have HB_ := HS.out.call1 hb_ rfl rfl rfl rfl; clear hb_ HS; have HS := Aside0.mk HB_; clear HB_)
  refine hK.out _ _ (by first | exact HS.out | exact HS.out.any rfl rfl rfl rfl | exact (HS.out.any rfl rfl rfl rfl).tail | exact (HS.out.any rfl rfl rfl rfl).tail.tail | exact (HS.out.any rfl rfl rfl rfl).tail.tail.tail) (fun hHeld => ?_)
  clear hK K
  refine norm_ (a' := ?_) ?_ ?_
  rotate_left
  · show Act.put _ (some 40) _ = _
    simp only [Act.put, List.setIfInBounds_toArray, List.set_cons_zero, List.set_cons_succ, i64_w, i32_w]
    rfl
  refine take_ (i := 4) (N := some 41) (v := (.bool true)) (a' := ?_) #[true, true, true, true, true, false, false, false, false, false, false, false, false, false, false, false, false, false, false, false, false, false, false, false, false, false, false, false, false, false, false, false, false, false, false, false, false, false, false, false] rfl rfl (by kernel_rfl) (fun _ _ _ h => h) (Or.inl ⟨by rfl, ?_⟩) (by first | exact HS.out | exact HS.out.any rfl rfl rfl rfl | exact (HS.out.any rfl rfl rfl rfl).tail | exact (HS.out.any rfl rfl rfl rfl).tail.tail | exact (HS.out.any rfl rfl rfl rfl).tail.tail.tail) ?_ ?_
  · intro w' s0
    (skip; go_simp; try simp)
  rotate_left
  · simp only [Act.put, List.setIfInBounds_toArray, List.set_cons_zero, List.set_cons_succ, i64_w, i32_w]
    rfl
  refine pure_ (i := 5) (N := some 42) (v := ?_) (a' := ?_) #[true, true, true, true, true, true, false, false, false, false, false, false, false, false, false, false, false, false, false, false, false, false, false, false, false, false, false, false, false, false, false, false, false, false, false, false, false, false, false, false] rfl rfl (by kernel_rfl) (fun _ _ _ h => h) (Or.inl ⟨by rfl, ?_⟩) ?_ ?_
  rotate_left
  · intro w'
    go_simp
    with_reducible rfl
  rotate_left
  · simp only [Act.put, List.setIfInBounds_toArray, List.set_cons_zero, List.set_cons_succ, i64_w, i32_w]
    rfl
  refine take_ (i := 6) (N := some 43) (v := (.agg #[.string k, .string v, .bool g])) (a' := ?_) #[true, true, true, true, true, true, true, false, false, false, false, false, false, false, false, false, false, false, false, false, false, false, false, false, false, false, false, false, false, false, false, false, false, false, false, false, false, false, false, false] rfl rfl (by kernel_rfl) (fun _ _ _ h => h) (Or.inl ⟨by rfl, ?_⟩) (by first | exact HS.out | exact HS.out.any rfl rfl rfl rfl | exact (HS.out.any rfl rfl rfl rfl).tail | exact (HS.out.any rfl rfl rfl rfl).tail.tail | exact (HS.out.any rfl rfl rfl rfl).tail.tail.tail) ?_ ?_
  · intro w' s0
    (exact run_loadN (n := 3) rfl (manyB_of (by decide +kernel) (by decide +kernel)) rfl ((s0.below.block _ LT.out).trans BX.out) rfl rfl)
  rotate_left
  · simp only [Act.put, List.setIfInBounds_toArray, List.set_cons_zero, List.set_cons_succ, i64_w, i32_w]
    rfl
  refine take_ (i := 8) (N := some 45) (v := (.agg #[.string k, .string v, .bool g])) (a' := ?_) #[true, true, true, true, true, true, true, false, true, false, false, false, false, false, false, false, false, false, false, false, false, false, false, false, false, false, false, false, false, false, false, false, false, false, false, false, false, false, false, false] rfl rfl (by kernel_rfl) (fun _ _ _ h => h) (Or.inl ⟨by rfl, ?_⟩) (by first | exact HS.out | exact HS.out.any rfl rfl rfl rfl | exact (HS.out.any rfl rfl rfl rfl).tail | exact (HS.out.any rfl rfl rfl rfl).tail.tail | exact (HS.out.any rfl rfl rfl rfl).tail.tail.tail) ?_ ?_
  · intro w' s0
    (exact run_loadN (n := 3) rfl (manyB_of (by decide +kernel) (by decide +kernel)) rfl ((s0.below.block _ LT.out).trans BX.out) rfl rfl)
  rotate_left
  · simp only [Act.put, List.setIfInBounds_toArray, List.set_cons_zero, List.set_cons_succ, i64_w, i32_w]
    rfl
  refine one_ (i := 7) (N := some 44) #[true, true, true, true, true, true, true, true, true, false, false, false, false, false, false, false, false, false, false, false, false, false, false, false, false, false, false, false, false, false, false, false, false, false, false, false, false, false, false, false] rfl rfl (by kernel_rfl) (by decide) (fun K hK => ?_)
  apply call_e Try.func24 (args := #[.agg #[.string k, .string v, .bool g]]); (case hname => kernel_rfl); (case hb => rfl); (case hop => rfl); (case hN => rfl); (case hw => rfl); (case hargs => ((try simp only [List.map_toArray, List.map_cons, List.map_nil]); first | done | rfl)); (case hcl => exact node_Size.calls k v g _ _ S1.out); rintro e w1 ⟨rfl, hb_⟩; refine ⟨_, rfl, ?_⟩; (have HB_ := HS.out.call1 hb_ rfl rfl rfl rfl; clear hb_ HS; have HS := Aside0.mk HB_; clear HB_)
  refine hK.out _ _ (by first | exact HS.out | exact HS.out.any rfl rfl rfl rfl | exact (HS.out.any rfl rfl rfl rfl).tail | exact (HS.out.any rfl rfl rfl rfl).tail.tail | exact (HS.out.any rfl rfl rfl rfl).tail.tail.tail) (fun hHeld => ?_)
  clear hK K
  refine norm_ (a' := ?_) ?_ ?_
  rotate_left
  · show Act.put _ (some 44) _ = _
    simp only [Act.put, List.setIfInBounds_toArray, List.set_cons_zero, List.set_cons_succ, i64_w, i32_w]
    rfl
  refine one_ (i := 9) (N := some 46) #[true, true, true, true, true, true, true, true, true, true, false, false, false, false, false, false, false, false, false, false, false, false, false, false, false, false, false, false, false, false, false, false, false, false, false, false, false, false, false, false] rfl rfl (by kernel_rfl) (by decide) (fun K hK => ?_)
  apply call_e Try.func25 (args := #[.agg #[.string k, .string v, .bool g]]); (case hname => kernel_rfl); (case hb => rfl); (case hop => rfl); (case hN => rfl); (case hw => rfl); (case hargs => ((try simp only [List.map_toArray, List.map_cons, List.map_nil]); first | done | rfl)); (case hcl => exact pumiceref06_Size.calls k v g _ _ S2.out); rintro e w1 ⟨rfl, hb_⟩; refine ⟨_, rfl, ?_⟩; (have HB_ := HS.out.call1 hb_ rfl rfl rfl rfl; clear hb_ HS; have HS := Aside0.mk HB_; clear HB_)
  refine hK.out _ _ (by first | exact HS.out | exact HS.out.any rfl rfl rfl rfl | exact (HS.out.any rfl rfl rfl rfl).tail | exact (HS.out.any rfl rfl rfl rfl).tail.tail | exact (HS.out.any rfl rfl rfl rfl).tail.tail.tail) (fun hHeld => ?_)
  clear hK K
  refine norm_ (a' := ?_) ?_ ?_
  rotate_left
  · show Act.put _ (some 46) _ = _
    simp only [Act.put, List.setIfInBounds_toArray, List.set_cons_zero, List.set_cons_succ, i64_w, i32_w]
    rfl
  refine take_ (i := 10) (N := some 47) (v := (.bool true)) (a' := ?_) #[true, true, true, true, true, true, true, true, true, true, true, false, false, false, false, false, false, false, false, false, false, false, false, false, false, false, false, false, false, false, false, false, false, false, false, false, false, false, false, false] rfl rfl (by kernel_rfl) (fun _ _ _ h => h) (Or.inl ⟨by rfl, ?_⟩) (by first | exact HS.out | exact HS.out.any rfl rfl rfl rfl | exact (HS.out.any rfl rfl rfl rfl).tail | exact (HS.out.any rfl rfl rfl rfl).tail.tail | exact (HS.out.any rfl rfl rfl rfl).tail.tail.tail) ?_ ?_
  · intro w' s0
    (skip; go_simp; try simp)
  rotate_left
  · simp only [Act.put, List.setIfInBounds_toArray, List.set_cons_zero, List.set_cons_succ, i64_w, i32_w]
    rfl
  refine pure_ (i := 11) (N := some 48) (v := ?_) (a' := ?_) #[true, true, true, true, true, true, true, true, true, true, true, true, false, false, false, false, false, false, false, false, false, false, false, false, false, false, false, false, false, false, false, false, false, false, false, false, false, false, false, false] rfl rfl (by kernel_rfl) (fun _ _ _ h => h) (Or.inl ⟨by rfl, ?_⟩) ?_ ?_
  rotate_left
  · intro w'
    go_simp
    with_reducible rfl
  rotate_left
  · simp only [Act.put, List.setIfInBounds_toArray, List.set_cons_zero, List.set_cons_succ, i64_w, i32_w]
    rfl
  refine pure_ (i := 12) (N := some 49) (v := ?_) (a' := ?_) #[true, true, true, true, true, true, true, true, true, true, true, true, true, false, false, false, false, false, false, false, false, false, false, false, false, false, false, false, false, false, false, false, false, false, false, false, false, false, false, false] rfl rfl (by kernel_rfl) (fun _ _ _ h => h) (Or.inl ⟨by rfl, ?_⟩) ?_ ?_
  rotate_left
  · intro w'
    go_simp
    with_reducible rfl
  rotate_left
  · simp only [Act.put, List.setIfInBounds_toArray, List.set_cons_zero, List.set_cons_succ, i64_w, i32_w]
    rfl
  refine pure_ (i := 13) (N := some 50) (v := ?_) (a' := ?_) #[true, true, true, true, true, true, true, true, true, true, true, true, true, true, false, false, false, false, false, false, false, false, false, false, false, false, false, false, false, false, false, false, false, false, false, false, false, false, false, false] rfl rfl (by kernel_rfl) (fun _ _ _ h => h) (Or.inl ⟨by rfl, ?_⟩) ?_ ?_
  rotate_left
  · intro w'
    go_simp
    with_reducible rfl
  rotate_left
  · simp only [Act.put, List.setIfInBounds_toArray, List.set_cons_zero, List.set_cons_succ, i64_w, i32_w]
    rfl
  refine pure_ (i := 15) (N := some 52) (v := ?_) (a' := ?_) #[true, true, true, true, true, true, true, true, true, true, true, true, true, true, false, true, false, false, false, false, false, false, false, false, false, false, false, false, false, false, false, false, false, false, false, false, false, false, false, false] rfl rfl (by kernel_rfl) (fun _ _ _ h => h) (Or.inl ⟨by rfl, ?_⟩) ?_ ?_
  rotate_left
  · intro w'
    go_simp
    with_reducible rfl
  rotate_left
  · simp only [Act.put, List.setIfInBounds_toArray, List.set_cons_zero, List.set_cons_succ, i64_w, i32_w]
    rfl
  refine take_ (i := 14) (N := some 51) (v := (.string (strOfNums xs))) (a' := ?_) #[true, true, true, true, true, true, true, true, true, true, true, true, true, true, true, true, false, false, false, false, false, false, false, false, false, false, false, false, false, false, false, false, false, false, false, false, false, false, false, false] rfl rfl (by kernel_rfl) (fun _ _ _ h => h) (Or.inl ⟨by rfl, ?_⟩) (by first | exact HS.out | exact HS.out.any rfl rfl rfl rfl | exact (HS.out.any rfl rfl rfl rfl).tail | exact (HS.out.any rfl rfl rfl rfl).tail.tail | exact (HS.out.any rfl rfl rfl rfl).tail.tail.tail) ?_ ?_
  · intro w' s0
    (exact run_text_ rfl rfl Try.underlying34 Try.underlying5 Try.underlying9 (X1.out.C (h1 := fun _ => rfl) s0 L1.out))
  rotate_left
  · simp only [Act.put, List.setIfInBounds_toArray, List.set_cons_zero, List.set_cons_succ, i64_w, i32_w]
    rfl
  refine take_ (i := 16) (N := some 53) (v := (.string (strOfNums xs))) (a' := ?_) #[true, true, true, true, true, true, true, true, true, true, true, true, true, true, true, true, true, false, false, false, false, false, false, false, false, false, false, false, false, false, false, false, false, false, false, false, false, false, false, false] rfl rfl (by kernel_rfl) (fun _ _ _ h => h) (Or.inl ⟨by rfl, ?_⟩) (by first | exact HS.out | exact HS.out.any rfl rfl rfl rfl | exact (HS.out.any rfl rfl rfl rfl).tail | exact (HS.out.any rfl rfl rfl rfl).tail.tail | exact (HS.out.any rfl rfl rfl rfl).tail.tail.tail) ?_ ?_
  · intro w' s0
    (exact run_text_ rfl rfl Try.underlying34 Try.underlying5 Try.underlying9 (X2.out.C (h1 := fun _ => rfl) s0 L1.out))
  rotate_left
  · simp only [Act.put, List.setIfInBounds_toArray, List.set_cons_zero, List.set_cons_succ, i64_w, i32_w]
    rfl
  refine take_ (i := 17) (N := some 54) (v := (.bool true)) (a' := ?_) #[true, true, true, true, true, true, true, true, true, true, true, true, true, true, true, true, true, true, false, false, false, false, false, false, false, false, false, false, false, false, false, false, false, false, false, false, false, false, false, false] rfl rfl (by kernel_rfl) (fun _ _ _ h => h) (Or.inl ⟨by rfl, ?_⟩) (by first | exact HS.out | exact HS.out.any rfl rfl rfl rfl | exact (HS.out.any rfl rfl rfl rfl).tail | exact (HS.out.any rfl rfl rfl rfl).tail.tail | exact (HS.out.any rfl rfl rfl rfl).tail.tail.tail) ?_ ?_
  · intro w' s0
    (skip; go_simp; try simp)
  rotate_left
  · simp only [Act.put, List.setIfInBounds_toArray, List.set_cons_zero, List.set_cons_succ, i64_w, i32_w]
    rfl
  refine pure_ (i := 18) (N := some 55) (v := ?_) (a' := ?_) #[true, true, true, true, true, true, true, true, true, true, true, true, true, true, true, true, true, true, true, false, false, false, false, false, false, false, false, false, false, false, false, false, false, false, false, false, false, false, false, false] rfl rfl (by kernel_rfl) (fun _ _ _ h => h) (Or.inl ⟨by rfl, ?_⟩) ?_ ?_
  rotate_left
  · intro w'
    go_simp
    with_reducible rfl
  rotate_left
  · simp only [Act.put, List.setIfInBounds_toArray, List.set_cons_zero, List.set_cons_succ, i64_w, i32_w]
    rfl
  refine pure_ (i := 19) (N := some 56) (v := ?_) (a' := ?_) #[true, true, true, true, true, true, true, true, true, true, true, true, true, true, true, true, true, true, true, true, false, false, false, false, false, false, false, false, false, false, false, false, false, false, false, false, false, false, false, false] rfl rfl (by kernel_rfl) (fun _ _ _ h => h) (Or.inl ⟨by rfl, ?_⟩) ?_ ?_
  rotate_left
  · intro w'
    go_simp
    with_reducible rfl
  rotate_left
  · simp only [Act.put, List.setIfInBounds_toArray, List.set_cons_zero, List.set_cons_succ, i64_w, i32_w]
    rfl
  refine pure_ (i := 20) (N := some 57) (v := ?_) (a' := ?_) #[true, true, true, true, true, true, true, true, true, true, true, true, true, true, true, true, true, true, true, true, true, false, false, false, false, false, false, false, false, false, false, false, false, false, false, false, false, false, false, false] rfl rfl (by kernel_rfl) (fun _ _ _ h => h) (Or.inl ⟨by rfl, ?_⟩) ?_ ?_
  rotate_left
  · intro w'
    go_simp
    with_reducible rfl
  rotate_left
  · simp only [Act.put, List.setIfInBounds_toArray, List.set_cons_zero, List.set_cons_succ, i64_w, i32_w]
    rfl
  refine pure_ (i := 21) (N := some 58) (v := ?_) (a' := ?_) #[true, true, true, true, true, true, true, true, true, true, true, true, true, true, true, true, true, true, true, true, true, true, false, false, false, false, false, false, false, false, false, false, false, false, false, false, false, false, false, false] rfl rfl (by kernel_rfl) (fun _ _ _ h => h) (Or.inl ⟨by rfl, ?_⟩) ?_ ?_
  rotate_left
  · intro w'
    go_simp
    with_reducible rfl
  rotate_left
  · simp only [Act.put, List.setIfInBounds_toArray, List.set_cons_zero, List.set_cons_succ, i64_w, i32_w]
    rfl
  refine take_ (i := 22) (N := some 59) (v := (.bool true)) (a' := ?_) #[true, true, true, true, true, true, true, true, true, true, true, true, true, true, true, true, true, true, true, true, true, true, true, false, false, false, false, false, false, false, false, false, false, false, false, false, false, false, false, false] rfl rfl (by kernel_rfl) (fun _ _ _ h => h) (Or.inl ⟨by rfl, ?_⟩) (by first | exact HS.out | exact HS.out.any rfl rfl rfl rfl | exact (HS.out.any rfl rfl rfl rfl).tail | exact (HS.out.any rfl rfl rfl rfl).tail.tail | exact (HS.out.any rfl rfl rfl rfl).tail.tail.tail) ?_ ?_
  · intro w' s0
    (skip; go_simp; try simp)
  rotate_left
  · simp only [Act.put, List.setIfInBounds_toArray, List.set_cons_zero, List.set_cons_succ, i64_w, i32_w]
    rfl
  refine pure_ (i := 23) (N := some 60) (v := ?_) (a' := ?_) #[true, true, true, true, true, true, true, true, true, true, true, true, true, true, true, true, true, true, true, true, true, true, true, true, false, false, false, false, false, false, false, false, false, false, false, false, false, false, false, false] rfl rfl (by kernel_rfl) (fun _ _ _ h => h) (Or.inl ⟨by rfl, ?_⟩) ?_ ?_
  rotate_left
  · intro w'
    go_simp
    with_reducible rfl
  rotate_left
  · simp only [Act.put, List.setIfInBounds_toArray, List.set_cons_zero, List.set_cons_succ, i64_w, i32_w]
    rfl
  refine pure_ (i := 24) (N := some 61) (v := ?_) (a' := ?_) #[true, true, true, true, true, true, true, true, true, true, true, true, true, true, true, true, true, true, true, true, true, true, true, true, true, false, false, false, false, false, false, false, false, false, false, false, false, false, false, false] rfl rfl (by kernel_rfl) (fun _ _ _ h => h) (Or.inl ⟨by rfl, ?_⟩) ?_ ?_
  rotate_left
  · intro w'
    go_simp
    with_reducible rfl
  rotate_left
  · simp only [Act.put, List.setIfInBounds_toArray, List.set_cons_zero, List.set_cons_succ, i64_w, i32_w]
    rfl
  refine pure_ (i := 25) (N := some 62) (v := ?_) (a' := ?_) #[true, true, true, true, true, true, true, true, true, true, true, true, true, true, true, true, true, true, true, true, true, true, true, true, true, true, false, false, false, false, false, false, false, false, false, false, false, false, false, false] rfl rfl (by kernel_rfl) (fun _ _ _ h => h) (Or.inl ⟨by rfl, ?_⟩) ?_ ?_
  rotate_left
  · intro w'
    go_simp
    with_reducible rfl
  rotate_left
  · simp only [Act.put, List.setIfInBounds_toArray, List.set_cons_zero, List.set_cons_succ, i64_w, i32_w]
    rfl
  refine pure_ (i := 27) (N := some 64) (v := ?_) (a' := ?_) #[true, true, true, true, true, true, true, true, true, true, true, true, true, true, true, true, true, true, true, true, true, true, true, true, true, true, false, true, false, false, false, false, false, false, false, false, false, false, false, false] rfl rfl (by kernel_rfl) (fun _ _ _ h => h) (Or.inl ⟨by rfl, ?_⟩) ?_ ?_
  rotate_left
  · intro w'
    go_simp
    with_reducible rfl
  rotate_left
  · simp only [Act.put, List.setIfInBounds_toArray, List.set_cons_zero, List.set_cons_succ, i64_w, i32_w]
    rfl
  refine take_ (i := 26) (N := some 63) (v := (.string (strOfNums ms))) (a' := ?_) #[true, true, true, true, true, true, true, true, true, true, true, true, true, true, true, true, true, true, true, true, true, true, true, true, true, true, true, true, false, false, false, false, false, false, false, false, false, false, false, false] rfl rfl (by kernel_rfl) (fun _ _ _ h => h) (Or.inl ⟨by rfl, ?_⟩) (by first | exact HS.out | exact HS.out.any rfl rfl rfl rfl | exact (HS.out.any rfl rfl rfl rfl).tail | exact (HS.out.any rfl rfl rfl rfl).tail.tail | exact (HS.out.any rfl rfl rfl rfl).tail.tail.tail) ?_ ?_
  · intro w' s0
    (exact run_text_ rfl rfl Try.underlying34 Try.underlying5 Try.underlying9 (X3.out.C (h1 := fun _ => rfl) s0 L3.out))
  rotate_left
  · simp only [Act.put, List.setIfInBounds_toArray, List.set_cons_zero, List.set_cons_succ, i64_w, i32_w]
    rfl
  refine take_ (i := 28) (N := some 65) (v := (.string (strOfNums ms))) (a' := ?_) #[true, true, true, true, true, true, true, true, true, true, true, true, true, true, true, true, true, true, true, true, true, true, true, true, true, true, true, true, true, false, false, false, false, false, false, false, false, false, false, false] rfl rfl (by kernel_rfl) (fun _ _ _ h => h) (Or.inl ⟨by rfl, ?_⟩) (by first | exact HS.out | exact HS.out.any rfl rfl rfl rfl | exact (HS.out.any rfl rfl rfl rfl).tail | exact (HS.out.any rfl rfl rfl rfl).tail.tail | exact (HS.out.any rfl rfl rfl rfl).tail.tail.tail) ?_ ?_
  · intro w' s0
    (exact run_text_ rfl rfl Try.underlying34 Try.underlying5 Try.underlying9 (X4.out.C (h1 := fun _ => rfl) s0 L3.out))
  rotate_left
  · simp only [Act.put, List.setIfInBounds_toArray, List.set_cons_zero, List.set_cons_succ, i64_w, i32_w]
    rfl
  refine take_ (i := 29) (N := some 66) (v := (.bool true)) (a' := ?_) #[true, true, true, true, true, true, true, true, true, true, true, true, true, true, true, true, true, true, true, true, true, true, true, true, true, true, true, true, true, true, false, false, false, false, false, false, false, false, false, false] rfl rfl (by kernel_rfl) (fun _ _ _ h => h) (Or.inl ⟨by rfl, ?_⟩) (by first | exact HS.out | exact HS.out.any rfl rfl rfl rfl | exact (HS.out.any rfl rfl rfl rfl).tail | exact (HS.out.any rfl rfl rfl rfl).tail.tail | exact (HS.out.any rfl rfl rfl rfl).tail.tail.tail) ?_ ?_
  · intro w' s0
    (skip; go_simp; try simp)
  rotate_left
  · simp only [Act.put, List.setIfInBounds_toArray, List.set_cons_zero, List.set_cons_succ, i64_w, i32_w]
    rfl
  refine pure_ (i := 30) (N := some 67) (v := ?_) (a' := ?_) #[true, true, true, true, true, true, true, true, true, true, true, true, true, true, true, true, true, true, true, true, true, true, true, true, true, true, true, true, true, true, true, false, false, false, false, false, false, false, false, false] rfl rfl (by kernel_rfl) (fun _ _ _ h => h) (Or.inl ⟨by rfl, ?_⟩) ?_ ?_
  rotate_left
  · intro w'
    go_simp
    with_reducible rfl
  rotate_left
  · simp only [Act.put, List.setIfInBounds_toArray, List.set_cons_zero, List.set_cons_succ, i64_w, i32_w]
    rfl
  refine pure_ (i := 31) (N := some 68) (v := ?_) (a' := ?_) #[true, true, true, true, true, true, true, true, true, true, true, true, true, true, true, true, true, true, true, true, true, true, true, true, true, true, true, true, true, true, true, true, false, false, false, false, false, false, false, false] rfl rfl (by kernel_rfl) (fun _ _ _ h => h) (Or.inl ⟨by rfl, ?_⟩) ?_ ?_
  rotate_left
  · intro w'
    go_simp
    with_reducible rfl
  rotate_left
  · simp only [Act.put, List.setIfInBounds_toArray, List.set_cons_zero, List.set_cons_succ, i64_w, i32_w]
    rfl
  refine pure_ (i := 32) (N := some 69) (v := ?_) (a' := ?_) #[true, true, true, true, true, true, true, true, true, true, true, true, true, true, true, true, true, true, true, true, true, true, true, true, true, true, true, true, true, true, true, true, true, false, false, false, false, false, false, false] rfl rfl (by kernel_rfl) (fun _ _ _ h => h) (Or.inl ⟨by rfl, ?_⟩) ?_ ?_
  rotate_left
  · intro w'
    go_simp
    with_reducible rfl
  rotate_left
  · simp only [Act.put, List.setIfInBounds_toArray, List.set_cons_zero, List.set_cons_succ, i64_w, i32_w]
    rfl
  refine pure_ (i := 33) (N := some 70) (v := ?_) (a' := ?_) #[true, true, true, true, true, true, true, true, true, true, true, true, true, true, true, true, true, true, true, true, true, true, true, true, true, true, true, true, true, true, true, true, true, true, false, false, false, false, false, false] rfl rfl (by kernel_rfl) (fun _ _ _ h => h) (Or.inl ⟨by rfl, ?_⟩) ?_ ?_
  rotate_left
  · intro w'
    go_simp
    with_reducible rfl
  rotate_left
  · simp only [Act.put, List.setIfInBounds_toArray, List.set_cons_zero, List.set_cons_succ, i64_w, i32_w]
    rfl
  refine take_ (i := 34) (N := some 71) (v := (.bool true)) (a' := ?_) #[true, true, true, true, true, true, true, true, true, true, true, true, true, true, true, true, true, true, true, true, true, true, true, true, true, true, true, true, true, true, true, true, true, true, true, false, false, false, false, false] rfl rfl (by kernel_rfl) (fun _ _ _ h => h) (Or.inl ⟨by rfl, ?_⟩) (by first | exact HS.out | exact HS.out.any rfl rfl rfl rfl | exact (HS.out.any rfl rfl rfl rfl).tail | exact (HS.out.any rfl rfl rfl rfl).tail.tail | exact (HS.out.any rfl rfl rfl rfl).tail.tail.tail) ?_ ?_
  · intro w' s0
    (skip; go_simp; try simp)
  rotate_left
  · simp only [Act.put, List.setIfInBounds_toArray, List.set_cons_zero, List.set_cons_succ, i64_w, i32_w]
    rfl
  refine pure_ (i := 35) (N := some 72) (v := ?_) (a' := ?_) #[true, true, true, true, true, true, true, true, true, true, true, true, true, true, true, true, true, true, true, true, true, true, true, true, true, true, true, true, true, true, true, true, true, true, true, true, false, false, false, false] rfl rfl (by kernel_rfl) (fun _ _ _ h => h) (Or.inl ⟨by rfl, ?_⟩) ?_ ?_
  rotate_left
  · intro w'
    go_simp
    with_reducible rfl
  rotate_left
  · simp only [Act.put, List.setIfInBounds_toArray, List.set_cons_zero, List.set_cons_succ, i64_w, i32_w]
    rfl
  refine pure_ (i := 36) (N := some 73) (v := ?_) (a' := ?_) #[true, true, true, true, true, true, true, true, true, true, true, true, true, true, true, true, true, true, true, true, true, true, true, true, true, true, true, true, true, true, true, true, true, true, true, true, true, false, false, false] rfl rfl (by kernel_rfl) (fun _ _ _ h => h) (Or.inl ⟨by rfl, ?_⟩) ?_ ?_
  rotate_left
  · intro w'
    go_simp
    with_reducible rfl
  rotate_left
  · simp only [Act.put, List.setIfInBounds_toArray, List.set_cons_zero, List.set_cons_succ, i64_w, i32_w]
    rfl
  refine one_ (i := 37) (N := some 74) #[true, true, true, true, true, true, true, true, true, true, true, true, true, true, true, true, true, true, true, true, true, true, true, true, true, true, true, true, true, true, true, true, true, true, true, true, true, true, false, false] rfl rfl (by kernel_rfl) (by decide) (fun K hK => ?_)
  apply call_e Try.func10 (args := #[]); (case hname => kernel_rfl); (case hb => rfl); (case hop => rfl); (case hN => rfl); (case hw => rfl); (case hargs => ((try simp only [List.map_toArray, List.map_cons, List.map_nil]); first | done | rfl)); (case hcl => exact pumicelaw06_alive.calls _ _ AL.out); rintro e w1 ⟨rfl, hb_⟩; refine ⟨_, rfl, ?_⟩; (have HB_ := HS.out.call1 hb_ rfl rfl rfl rfl; clear hb_ HS; have HS := Aside0.mk HB_; clear HB_)
  refine hK.out _ _ (by first | exact HS.out | exact HS.out.any rfl rfl rfl rfl | exact (HS.out.any rfl rfl rfl rfl).tail | exact (HS.out.any rfl rfl rfl rfl).tail.tail | exact (HS.out.any rfl rfl rfl rfl).tail.tail.tail) (fun hHeld => ?_)
  clear hK K
  refine norm_ (a' := ?_) ?_ ?_
  rotate_left
  · show Act.put _ (some 74) _ = _
    simp only [Act.put, List.setIfInBounds_toArray, List.set_cons_zero, List.set_cons_succ, i64_w, i32_w]
    rfl
  refine pure_ (i := 38) (N := some 75) (v := ?_) (a' := ?_) #[true, true, true, true, true, true, true, true, true, true, true, true, true, true, true, true, true, true, true, true, true, true, true, true, true, true, true, true, true, true, true, true, true, true, true, true, true, true, true, false] rfl rfl (by kernel_rfl) (fun _ _ _ h => h) (Or.inl ⟨by rfl, ?_⟩) ?_ ?_
  rotate_left
  · intro w'
    go_simp
    with_reducible rfl
  rotate_left
  · simp only [Act.put, List.setIfInBounds_toArray, List.set_cons_zero, List.set_cons_succ, i64_w, i32_w]
    rfl
  refine pure_ (i := 39) (N := some 6) (v := ?_) (a' := ?_) #[true, true, true, true, true, true, true, true, true, true, true, true, true, true, true, true, true, true, true, true, true, true, true, true, true, true, true, true, true, true, true, true, true, true, true, true, true, true, true, true] rfl rfl (by kernel_rfl) (fun _ _ _ h => h) (Or.inl ⟨by rfl, ?_⟩) ?_ ?_
  rotate_left
  · intro w'
    go_simp
    with_reducible rfl
  rotate_left
  · simp only [Act.put, List.setIfInBounds_toArray, List.set_cons_zero, List.set_cons_succ, i64_w, i32_w]
    rfl
  refine done_ (by kernel_rfl) ?_
  go_wp2
  (apply end_one (.tmp 6); (case hres => rfl); (case hd => rfl); (case hvs => apply Vals.tmp; exact .nil); (case hR => exact ⟨rfl, (HA.out.call HS.out.below).below⟩))
end Go.Proofs.Ytakchpeohmkpkaa.Q
