/- K14, K15, K4, K5 -/
import Derived.Test.YtakchpeohmkpkaaEb
import Derived.Test.YtakchpeohmkpkaaEc
import Derived.Test.YtakchpeohmkpkaaEd
namespace Go.Proofs.Ytakchpeohmkpkaa.Q
open Go.RowKit Go.Proofs.YtakchpeohmkpkaaW.PrintWords Go.Proofs.YtakchpeohmkpkaaW.PrintLast Go.Proofs.YtakchpeohmkpkaaW.PrintMore Go.Proofs.Ytakchpeohmkpkaa.Sep
set_option linter.unusedVariables false
set_option linter.unusedSimpArgs false
theorem run_text_b {P : Program} {W : World} {a : Act} {oi : Oper} {src dst e : TypeId} {x : Operand} {A : Option Addr} {n c : Nat} {xs : List Int} (hop : oi.op = .convert src dst x) (hev : a.eval x = .slice A n c) (hs : P.underlying src = some (.slice e)) (he : P.underlying e = some (.int .u8)) (hd : P.underlying dst = some .string)
    (hC : (Kd.int .u8).C W A n xs) : (execOp a.eval oi).run P W = .ok (.value (.string (strOfNums xs))) W := by
  unfold execOp
  simp [hop, hev, Kd.C_string hs he hd hC]
set_option maxHeartbeats 8000000 in
set_option maxRecDepth 100000 in
theorem nb_ino (a0 a1 : Int) (A2 : Option Addr) (c2 : Nat) (l2 : List Int) (w : World) (hr2 : Kd.C (Kd.int .u8) w A2 l2.length l2) (f0 : goodInoB a0 = false) :
    Calls Try.prog 38 #[.int .i64 a0, .int .i64 a1, .slice A2 l2.length c2] w fun e w' => e = .returned (.tuple #[.agg #[.string ⟨#[]⟩, .string ⟨#[]⟩, .bool false], .int .i64 22]) ∧ Below w.heap.size w w' := by
  have HS : Aside0 (Src (Value.int .u8) w [] A2 l2) := Aside0.mk (Src.of_C (h1 := fun _ => rfl) hr2)
  have HL : Aside0 (l2.length ≤ 9223372036854775807) := Aside0.mk hr2.2.1
  have HA := Aside0.mk (Holds.start w)
  clear hr2
  go_enter Try.func38, Try.ntmps38
  go_wp2_with (first
    | ((with_reducible apply alloc_ (z := (.agg #[.string ⟨#[]⟩, .string ⟨#[]⟩, .bool false]))); (case HH => first | exact HA.out | exact HA.out.any rfl rfl rfl rfl); (case hw => rfl); (case hz => kernel_rfl); (case hx => rfl); intro bz w1 HB_; simp only [Act.put, List.setIfInBounds_toArray, List.set_cons_zero, List.set_cons_succ]; clear HA; have HA := Aside0.mk HB_; clear HB_)
    | ((with_reducible apply store_); (case HH => first | exact HA.out | exact HA.out.any rfl rfl rfl rfl); (case hw => rfl); (case hx => rfl); (case hev => conv => lhs; whnf); (case hy => rfl); (case hm => repeat (first | exact Holds.At.here | apply Holds.At.there)); (case hl => rfl); (case hn => kernel_rfl); (case h1 => simp [Value.oneCell']); (case hi => simp); intro w1 HB_; simp only [splice, List.set_cons_zero, List.set_cons_succ] at HB_; clear HA; have HA := Aside0.mk HB_; clear HB_)
    | (go_at_call 56; (with_reducible refine (good_calls _ _).mono ?_); rintro e w' ⟨rfl, ⟨nd, rfl⟩⟩)
    | (go_at_call 57; (with_reducible refine (blk_calls _ _).mono ?_); rintro e w' ⟨rfl, ⟨nd, rfl⟩⟩))
  (apply end_list [.cell 6 32, .tmp 7]; (case hres => rfl); (case hd => rfl); (case hvs => apply vcell (by first | exact HA.out | exact HA.out.any rfl rfl rfl rfl); (case hp => rfl); (case hm => repeat (first | exact List.Mem.head _ | refine List.Mem.tail _ ?_)); (case hag => rfl); (case hi => kernel_rfl); (case hvs => apply Vals.tmp; exact .nil)); (case hl => simp); (case hR => exact ⟨rfl, by first | exact HA.out.below | exact (HA.out.drewN _).below | exact (HA.out.any rfl rfl rfl rfl).below⟩))
set_option maxHeartbeats 8000000 in
set_option maxRecDepth 100000 in
theorem nb_blk (a0 a1 : Int) (A2 : Option Addr) (c2 : Nat) (l2 : List Int) (w : World) (hr2 : Kd.C (Kd.int .u8) w A2 l2.length l2) (f0 : goodInoB a0 = true) (f1 : goodBlockB a1 = false) :
    Calls Try.prog 38 #[.int .i64 a0, .int .i64 a1, .slice A2 l2.length c2] w fun e w' => e = .returned (.tuple #[.agg #[.string ⟨#[]⟩, .string ⟨#[]⟩, .bool false], .int .i64 22]) ∧ Below w.heap.size w w' := by
  have HS : Aside0 (Src (Value.int .u8) w [] A2 l2) := Aside0.mk (Src.of_C (h1 := fun _ => rfl) hr2)
  have HL : Aside0 (l2.length ≤ 9223372036854775807) := Aside0.mk hr2.2.1
  have HA := Aside0.mk (Holds.start w)
  clear hr2
  go_enter Try.func38, Try.ntmps38
  go_wp2_with (first
    | ((with_reducible apply alloc_ (z := (.agg #[.string ⟨#[]⟩, .string ⟨#[]⟩, .bool false]))); (case HH => first | exact HA.out | exact HA.out.any rfl rfl rfl rfl); (case hw => rfl); (case hz => kernel_rfl); (case hx => rfl); intro bz w1 HB_; simp only [Act.put, List.setIfInBounds_toArray, List.set_cons_zero, List.set_cons_succ]; clear HA; have HA := Aside0.mk HB_; clear HB_)
    | ((with_reducible apply store_); (case HH => first | exact HA.out | exact HA.out.any rfl rfl rfl rfl); (case hw => rfl); (case hx => rfl); (case hev => conv => lhs; whnf); (case hy => rfl); (case hm => repeat (first | exact Holds.At.here | apply Holds.At.there)); (case hl => rfl); (case hn => kernel_rfl); (case h1 => simp [Value.oneCell']); (case hi => simp); intro w1 HB_; simp only [splice, List.set_cons_zero, List.set_cons_succ] at HB_; clear HA; have HA := Aside0.mk HB_; clear HB_)
    | (go_at_call 56; (with_reducible refine (good_calls _ _).mono ?_); rintro e w' ⟨rfl, ⟨nd, rfl⟩⟩)
    | (go_at_call 57; (with_reducible refine (blk_calls _ _).mono ?_); rintro e w' ⟨rfl, ⟨nd, rfl⟩⟩))
  (apply end_list [.cell 6 32, .tmp 7]; (case hres => rfl); (case hd => rfl); (case hvs => apply vcell (by first | exact HA.out | exact HA.out.any rfl rfl rfl rfl); (case hp => rfl); (case hm => repeat (first | exact List.Mem.head _ | refine List.Mem.tail _ ?_)); (case hag => rfl); (case hi => kernel_rfl); (case hvs => apply Vals.tmp; exact .nil)); (case hl => simp); (case hR => exact ⟨rfl, by first | exact HA.out.below | exact (HA.out.drewN _).below | exact (HA.out.any rfl rfl rfl rfl).below⟩))
set_option maxHeartbeats 8000000 in
set_option maxRecDepth 100000 in
theorem nb_none (a0 a1 : Int) (A2 : Option Addr) (c2 : Nat) (l2 : List Int) (w : World) (hr2 : Kd.C (Kd.int .u8) w A2 l2.length l2) (f0 : goodInoB a0 = true) (f1 : goodBlockB a1 = true) (f2 : (((l2.length : Nat) : Int) == 0) = true) :
    Calls Try.prog 38 #[.int .i64 a0, .int .i64 a1, .slice A2 l2.length c2] w fun e w' => e = .returned (.tuple #[.agg #[.string ⟨#[]⟩, .string ⟨#[]⟩, .bool false], .int .i64 22]) ∧ Below w.heap.size w w' := by
  have HS : Aside0 (Src (Value.int .u8) w [] A2 l2) := Aside0.mk (Src.of_C (h1 := fun _ => rfl) hr2)
  have HL : Aside0 (l2.length ≤ 9223372036854775807) := Aside0.mk hr2.2.1
  have HA := Aside0.mk (Holds.start w)
  clear hr2
  go_enter Try.func38, Try.ntmps38
  go_wp2_with (first
    | ((with_reducible apply alloc_ (z := (.agg #[.string ⟨#[]⟩, .string ⟨#[]⟩, .bool false]))); (case HH => first | exact HA.out | exact HA.out.any rfl rfl rfl rfl); (case hw => rfl); (case hz => kernel_rfl); (case hx => rfl); intro bz w1 HB_; simp only [Act.put, List.setIfInBounds_toArray, List.set_cons_zero, List.set_cons_succ]; clear HA; have HA := Aside0.mk HB_; clear HB_)
    | ((with_reducible apply store_); (case HH => first | exact HA.out | exact HA.out.any rfl rfl rfl rfl); (case hw => rfl); (case hx => rfl); (case hev => conv => lhs; whnf); (case hy => rfl); (case hm => repeat (first | exact Holds.At.here | apply Holds.At.there)); (case hl => rfl); (case hn => kernel_rfl); (case h1 => simp [Value.oneCell']); (case hi => simp); intro w1 HB_; simp only [splice, List.set_cons_zero, List.set_cons_succ] at HB_; clear HA; have HA := Aside0.mk HB_; clear HB_)
    | (go_at_call 56; (with_reducible refine (good_calls _ _).mono ?_); rintro e w' ⟨rfl, ⟨nd, rfl⟩⟩)
    | (go_at_call 57; (with_reducible refine (blk_calls _ _).mono ?_); rintro e w' ⟨rfl, ⟨nd, rfl⟩⟩))
  (apply end_list [.cell 6 32, .tmp 7]; (case hres => rfl); (case hd => rfl); (case hvs => apply vcell (by first | exact HA.out | exact HA.out.any rfl rfl rfl rfl); (case hp => rfl); (case hm => repeat (first | exact List.Mem.head _ | refine List.Mem.tail _ ?_)); (case hag => rfl); (case hi => kernel_rfl); (case hvs => apply Vals.tmp; exact .nil)); (case hl => simp); (case hR => exact ⟨rfl, by first | exact HA.out.below | exact (HA.out.drewN _).below | exact (HA.out.any rfl rfl rfl rfl).below⟩))
set_option maxHeartbeats 8000000 in
set_option maxRecDepth 100000 in
theorem nb_big (a0 a1 : Int) (A2 : Option Addr) (c2 : Nat) (l2 : List Int) (w : World) (hr2 : Kd.C (Kd.int .u8) w A2 l2.length l2) (f0 : goodInoB a0 = true) (f1 : goodBlockB a1 = true) (f2 : (((l2.length : Nat) : Int) == 0) = false) (f3 : decide (128 < ((l2.length : Nat) : Int)) = true) :
    Calls Try.prog 38 #[.int .i64 a0, .int .i64 a1, .slice A2 l2.length c2] w fun e w' => e = .returned (.tuple #[.agg #[.string ⟨#[]⟩, .string ⟨#[]⟩, .bool false], .int .i64 22]) ∧ Below w.heap.size w w' := by
  have HS : Aside0 (Src (Value.int .u8) w [] A2 l2) := Aside0.mk (Src.of_C (h1 := fun _ => rfl) hr2)
  have HL : Aside0 (l2.length ≤ 9223372036854775807) := Aside0.mk hr2.2.1
  have HA := Aside0.mk (Holds.start w)
  clear hr2
  go_enter Try.func38, Try.ntmps38
  go_wp2_with (first
    | ((with_reducible apply alloc_ (z := (.agg #[.string ⟨#[]⟩, .string ⟨#[]⟩, .bool false]))); (case HH => first | exact HA.out | exact HA.out.any rfl rfl rfl rfl); (case hw => rfl); (case hz => kernel_rfl); (case hx => rfl); intro bz w1 HB_; simp only [Act.put, List.setIfInBounds_toArray, List.set_cons_zero, List.set_cons_succ]; clear HA; have HA := Aside0.mk HB_; clear HB_)
    | ((with_reducible apply store_); (case HH => first | exact HA.out | exact HA.out.any rfl rfl rfl rfl); (case hw => rfl); (case hx => rfl); (case hev => conv => lhs; whnf); (case hy => rfl); (case hm => repeat (first | exact Holds.At.here | apply Holds.At.there)); (case hl => rfl); (case hn => kernel_rfl); (case h1 => simp [Value.oneCell']); (case hi => simp); intro w1 HB_; simp only [splice, List.set_cons_zero, List.set_cons_succ] at HB_; clear HA; have HA := Aside0.mk HB_; clear HB_)
    | (go_at_call 56; (with_reducible refine (good_calls _ _).mono ?_); rintro e w' ⟨rfl, ⟨nd, rfl⟩⟩)
    | (go_at_call 57; (with_reducible refine (blk_calls _ _).mono ?_); rintro e w' ⟨rfl, ⟨nd, rfl⟩⟩))
  (apply end_list [.cell 6 32, .tmp 7]; (case hres => rfl); (case hd => rfl); (case hvs => apply vcell (by first | exact HA.out | exact HA.out.any rfl rfl rfl rfl); (case hp => rfl); (case hm => repeat (first | exact List.Mem.head _ | refine List.Mem.tail _ ?_)); (case hag => rfl); (case hi => kernel_rfl); (case hvs => apply Vals.tmp; exact .nil)); (case hl => simp); (case hR => exact ⟨rfl, by first | exact HA.out.below | exact (HA.out.drewN _).below | exact (HA.out.any rfl rfl rfl rfl).below⟩))
set_option maxHeartbeats 8000000 in
set_option maxRecDepth 100000 in
theorem nb_ok (a0 a1 : Int) (A2 : Option Addr) (c2 : Nat) (l2 : List Int) (k : ByteArray) (w : World) (hr2 : Kd.C (Kd.int .u8) w A2 l2.length l2) (f0 : goodInoB a0 = true) (f1 : goodBlockB a1 = true) (f2 : (((l2.length : Nat) : Int) == 0) = false) (f3 : decide (128 < ((l2.length : Nat) : Int)) = false) (hk : node_BlockKey.f a0 a1 = some k) :
    Calls Try.prog 38 #[.int .i64 a0, .int .i64 a1, .slice A2 l2.length c2] w fun e w' => e = .returned (.tuple #[.agg #[.string k, .string (strOfNums l2), .bool false], .int .i64 0]) ∧ Below w.heap.size w w' := by
  have HS : Aside0 (Src (Value.int .u8) w [] A2 l2) := Aside0.mk (Src.of_C (h1 := fun _ => rfl) hr2)
  have HL : Aside0 (l2.length ≤ 9223372036854775807) := Aside0.mk hr2.2.1
  have HA := Aside0.mk (Holds.start w)
  have HK := Aside0.mk hk
  clear hr2 hk
  go_enter Try.func38, Try.ntmps38
  go_wp2_with (first
    | ((with_reducible apply alloc_ (z := (.agg #[.string ⟨#[]⟩, .string ⟨#[]⟩, .bool false]))); (case HH => first | exact HA.out | exact HA.out.any rfl rfl rfl rfl); (case hw => rfl); (case hz => kernel_rfl); (case hx => rfl); intro bz w1 HB_; simp only [Act.put, List.setIfInBounds_toArray, List.set_cons_zero, List.set_cons_succ]; clear HA; have HA := Aside0.mk HB_; clear HB_)
    | ((with_reducible apply store_); (case HH => first | exact HA.out | exact HA.out.any rfl rfl rfl rfl); (case hw => rfl); (case hx => rfl); (case hev => conv => lhs; whnf); (case hy => rfl); (case hm => repeat (first | exact Holds.At.here | apply Holds.At.there)); (case hl => rfl); (case hn => kernel_rfl); (case h1 => simp [Value.oneCell']); (case hi => simp); intro w1 HB_; simp only [splice, List.set_cons_zero, List.set_cons_succ] at HB_; clear HA; have HA := Aside0.mk HB_; clear HB_)
    | (go_at_call 56; (with_reducible refine (good_calls _ _).mono ?_); rintro e w' ⟨rfl, ⟨nd, rfl⟩⟩)
    | (go_at_call 57; (with_reducible refine (blk_calls _ _).mono ?_); rintro e w' ⟨rfl, ⟨nd, rfl⟩⟩))
  refine start_H (by first | exact HA.out | exact HA.out.any rfl rfl rfl rfl) (n := 8) [6] #[false, false, false, false, false, false, false, false] (by kernel_rfl) rfl rfl ?_
  refine pure_ (i := 0) (N := some 27) (v := ?_) (a' := ?_) #[true, false, false, false, false, false, false, false] rfl rfl (by kernel_rfl) (fun _ _ _ h => h) (Or.inl ⟨by rfl, ?_⟩) ?_ ?_
  rotate_left
  · intro w'
    go_simp
    with_reducible rfl
  rotate_left
  · simp only [Act.put, List.setIfInBounds_toArray, List.set_cons_zero, List.set_cons_succ, i64_w, i32_w]
    rfl
  refine pure_ (i := 1) (N := some 28) (v := ?_) (a' := ?_) #[true, true, false, false, false, false, false, false] rfl rfl (by kernel_rfl) (fun _ _ _ h => h) (Or.inl ⟨by rfl, ?_⟩) ?_ ?_
  rotate_left
  · intro w'
    go_simp
    with_reducible rfl
  rotate_left
  · simp only [Act.put, List.setIfInBounds_toArray, List.set_cons_zero, List.set_cons_succ, i64_w, i32_w]
    rfl
  refine pure_ (i := 3) (N := some 30) (v := ?_) (a' := ?_) #[true, true, false, true, false, false, false, false] rfl rfl (by kernel_rfl) (fun _ _ _ h => h) (Or.inl ⟨by rfl, ?_⟩) ?_ ?_
  rotate_left
  · intro w'
    go_simp
    with_reducible rfl
  rotate_left
  · simp only [Act.put, List.setIfInBounds_toArray, List.set_cons_zero, List.set_cons_succ, i64_w, i32_w]
    rfl
  refine take_ (i := 4) (N := some 31) (v := (.string (strOfNums l2))) (a' := ?_) #[true, true, false, true, true, false, false, false] rfl rfl (by kernel_rfl) (fun _ _ _ h => h) (Or.inl ⟨by rfl, ?_⟩) (by first | exact HA.out | exact HA.out.any rfl rfl rfl rfl | exact (HA.out.any rfl rfl rfl rfl).tail | exact (HA.out.any rfl rfl rfl rfl).tail.tail | exact (HA.out.any rfl rfl rfl rfl).tail.tail.tail) ?_ ?_
  · intro w' s0
    (exact run_text_b rfl rfl Try.underlying34 Try.underlying5 Try.underlying9 ((HS.out.mono (by simp)).C (h1 := fun _ => rfl) s0 HL.out))
  rotate_left
  · simp only [Act.put, List.setIfInBounds_toArray, List.set_cons_zero, List.set_cons_succ, i64_w, i32_w]
    rfl
  refine one_ (i := 2) (N := some 29) #[true, true, true, true, true, false, false, false] rfl rfl (by kernel_rfl) (by decide) (fun K hK => ?_)
  apply call_e Try.func13 (args := #[.int .i64 a0, .int .i64 a1]); (case hname => kernel_rfl); (case hb => rfl); (case hop => rfl); (case hN => rfl); (case hw => rfl); (case hargs => ((try simp only [List.map_toArray, List.map_cons, List.map_nil]); first | done | rfl)); (case hcl => exact node_BlockKey.calls a0 a1 _ _ HK.out); rintro e w1 ⟨rfl, hb_⟩; refine ⟨_, rfl, ?_⟩; (have HB_ := HA.out.call1 hb_ rfl rfl rfl rfl; clear hb_ HA; have HA := Aside0.mk HB_; clear HB_)
  refine hK.out _ _ (by first | exact HA.out | exact HA.out.any rfl rfl rfl rfl | exact (HA.out.any rfl rfl rfl rfl).tail | exact (HA.out.any rfl rfl rfl rfl).tail.tail | exact (HA.out.any rfl rfl rfl rfl).tail.tail.tail) (fun hHeld => ?_)
  clear hK K
  refine norm_ (a' := ?_) ?_ ?_
  rotate_left
  · show Act.put _ (some 29) _ = _
    simp only [Act.put, List.setIfInBounds_toArray, List.set_cons_zero, List.set_cons_succ, i64_w, i32_w]
    rfl
  refine pure_ (i := 5) (N := some 32) (v := ?_) (a' := ?_) #[true, true, true, true, true, true, false, false] rfl rfl (by kernel_rfl) (fun _ _ _ h => h) (Or.inl ⟨by rfl, ?_⟩) ?_ ?_
  rotate_left
  · intro w'
    go_simp
    with_reducible rfl
  rotate_left
  · simp only [Act.put, List.setIfInBounds_toArray, List.set_cons_zero, List.set_cons_succ, i64_w, i32_w]
    rfl
  refine last_ (i := 6) (N := none) #[true, true, true, true, true, true, true, false] rfl rfl (by kernel_rfl) (by decide) (fun K hK => ?_)
  apply store_e; (case HH => first | exact HA.out | exact HA.out.any rfl rfl rfl rfl); (case hop => rfl); (case hN => rfl); (case hw => rfl); (case hx => rfl); (case hev => conv => lhs; whnf); (case hy => rfl); (case hm => repeat (first | exact Holds.At.here | apply Holds.At.there)); (case hl => rfl); (case hn => kernel_rfl); (case h1 => simp [Value.oneCell']); (case hi => simp); intro w1 HB_; simp only [splice, List.set_cons_zero, List.set_cons_succ] at HB_; clear HA; have HA := Aside0.mk HB_; clear HB_
  refine hK.out _ _ ?_
  clear hK K
  refine pure_ (i := 7) (N := some 7) (v := ?_) (a' := ?_) #[true, true, true, true, true, true, true, true] rfl rfl (by kernel_rfl) (fun _ _ _ h => h) (Or.inl ⟨by rfl, ?_⟩) ?_ ?_
  rotate_left
  · intro w'
    go_simp
    with_reducible rfl
  rotate_left
  · simp only [Act.put, List.setIfInBounds_toArray, List.set_cons_zero, List.set_cons_succ, i64_w, i32_w]
    rfl
  refine done_ (by kernel_rfl) ?_
  go_wp2
  (apply end_list [.cell 6 32, .tmp 7]; (case hres => rfl); (case hd => rfl); (case hvs => apply vcell (by first | exact HA.out | exact HA.out.any rfl rfl rfl rfl); (case hp => rfl); (case hm => repeat (first | exact List.Mem.head _ | refine List.Mem.tail _ ?_)); (case hag => rfl); (case hi => kernel_rfl); (case hvs => apply Vals.tmp; exact .nil)); (case hl => simp); (case hR => exact ⟨rfl, by first | exact HA.out.below | exact (HA.out.drewN _).below | exact (HA.out.any rfl rfl rfl rfl).below⟩))
def node_Block.f (a0 a1 : Int) (l2 : List Int) : Option (ByteArray × ByteArray × Bool × Int) :=
  if goodInoB a0 = true ∧ goodBlockB a1 = true ∧ l2.length ≠ 0 ∧ l2.length ≤ 128 then (node_BlockKey.f a0 a1).bind fun k => some (k, strOfNums l2, false, 0) else some (⟨#[]⟩, ⟨#[]⟩, false, 22)
theorem node_Block.calls (a0 a1 : Int) (A2 : Option Addr) (c2 : Nat) (l2 : List Int) (r1 r2 : ByteArray) (r3 : Bool) (r4 : Int) (w : World) (hr2 : Kd.C (Kd.int .u8) w A2 l2.length l2) (hc2 : l2.length ≤ c2) (h : node_Block.f a0 a1 l2 = some (r1, r2, r3, r4)) :
    Calls Try.prog 38 #[.int .i64 a0, .int .i64 a1, .slice A2 l2.length c2] w fun e w' => e = .returned (.tuple #[.agg #[.string r1, .string r2, .bool r3], .int .i64 r4]) ∧ Below w.heap.size w w' := by
  unfold node_Block.f at h
  by_cases h1 : goodInoB a0 = true
  rotate_left
  · rw [if_neg (fun hh => h1 hh.1)] at h
    simp only [Option.some.injEq, Prod.mk.injEq] at h
    obtain ⟨rfl, rfl, rfl, rfl⟩ := h
    exact nb_ino a0 a1 A2 c2 l2 w hr2 (by simpa using h1)
  by_cases h2 : goodBlockB a1 = true
  rotate_left
  · rw [if_neg (fun hh => h2 hh.2.1)] at h
    simp only [Option.some.injEq, Prod.mk.injEq] at h
    obtain ⟨rfl, rfl, rfl, rfl⟩ := h
    exact nb_blk a0 a1 A2 c2 l2 w hr2 h1 (by simpa using h2)
  skip
  by_cases h3 : l2.length = 0
  · rw [if_neg (fun hh => hh.2.2.1 h3)] at h
    simp only [Option.some.injEq, Prod.mk.injEq] at h
    obtain ⟨rfl, rfl, rfl, rfl⟩ := h
    exact nb_none a0 a1 A2 c2 l2 w hr2 h1 h2 (by rw [h3]; rfl)
  have h3' : (((l2.length : Nat) : Int) == 0) = false := by simpa using h3
  by_cases h4 : l2.length ≤ 128
  · rw [if_pos ⟨h1, h2, h3, h4⟩] at h
    obtain ⟨k, hk, h⟩ := Option.bind_eq_some_iff.mp h
    simp only [Option.some.injEq, Prod.mk.injEq] at h
    obtain ⟨rfl, rfl, rfl, rfl⟩ := h
    exact nb_ok a0 a1 A2 c2 l2 _ w hr2 h1 h2 h3' (decide_eq_false (by omega)) hk
  · rw [if_neg (fun hh => h4 hh.2.2.2)] at h
    simp only [Option.some.injEq, Prod.mk.injEq] at h
    obtain ⟨rfl, rfl, rfl, rfl⟩ := h
    exact nb_big a0 a1 A2 c2 l2 w hr2 h1 h2 h3' (decide_eq_true (by omega))
end Go.Proofs.Ytakchpeohmkpkaa.Q

namespace Go.Proofs.Ytakchpeohmkpkaa.Q
open Go.RowKit Go.Proofs.YtakchpeohmkpkaaW.PrintWords Go.Proofs.YtakchpeohmkpkaaW.PrintLast Go.Proofs.YtakchpeohmkpkaaW.PrintMore Go.Proofs.Ytakchpeohmkpkaa.Sep
set_option linter.unusedVariables false
set_option linter.unusedSimpArgs false
set_option maxHeartbeats 8000000 in
set_option maxRecDepth 100000 in
theorem rb_ino (a0 a1 : Int) (A2 : Option Addr) (c2 : Nat) (l2 : List Int) (w : World) (hr2 : Kd.C (Kd.int .u8) w A2 l2.length l2) (f0 : goodInoB a0 = false) :
    Calls Try.prog 39 #[.int .i64 a0, .int .i64 a1, .slice A2 l2.length c2] w fun e w' => e = .returned (.tuple #[.agg #[.string ⟨#[]⟩, .string ⟨#[]⟩, .bool false], .int .i64 22]) ∧ Below w.heap.size w w' := by
  have HS : Aside0 (Src (Value.int .u8) w [] A2 l2) := Aside0.mk (Src.of_C (h1 := fun _ => rfl) hr2)
  have HL : Aside0 (l2.length ≤ 9223372036854775807) := Aside0.mk hr2.2.1
  have HA := Aside0.mk (Holds.start w)
  clear hr2
  go_enter Try.func39, Try.ntmps39
  go_wp2_with (first
    | ((with_reducible apply alloc_ (z := (.agg #[.string ⟨#[]⟩, .string ⟨#[]⟩, .bool false]))); (case HH => first | exact HA.out | exact HA.out.any rfl rfl rfl rfl); (case hw => rfl); (case hz => kernel_rfl); (case hx => rfl); intro bz w1 HB_; simp only [Act.put, List.setIfInBounds_toArray, List.set_cons_zero, List.set_cons_succ]; clear HA; have HA := Aside0.mk HB_; clear HB_)
    | ((with_reducible apply store_); (case HH => first | exact HA.out | exact HA.out.any rfl rfl rfl rfl); (case hw => rfl); (case hx => rfl); (case hev => conv => lhs; whnf); (case hy => rfl); (case hm => repeat (first | exact Holds.At.here | apply Holds.At.there)); (case hl => rfl); (case hn => kernel_rfl); (case h1 => simp [Value.oneCell']); (case hi => simp); intro w1 HB_; simp only [splice, List.set_cons_zero, List.set_cons_succ] at HB_; clear HA; have HA := Aside0.mk HB_; clear HB_)
    | (go_at_call 65; (with_reducible refine (rgood_calls _ _).mono ?_); rintro e w' ⟨rfl, ⟨nd, rfl⟩⟩))
  (apply end_list [.cell 6 32, .tmp 7]; (case hres => rfl); (case hd => rfl); (case hvs => apply vcell (by first | exact HA.out | exact HA.out.any rfl rfl rfl rfl); (case hp => rfl); (case hm => repeat (first | exact List.Mem.head _ | refine List.Mem.tail _ ?_)); (case hag => rfl); (case hi => kernel_rfl); (case hvs => apply Vals.tmp; exact .nil)); (case hl => simp); (case hR => exact ⟨rfl, by first | exact HA.out.below | exact (HA.out.drewN _).below | exact (HA.out.any rfl rfl rfl rfl).below⟩))
set_option maxHeartbeats 8000000 in
set_option maxRecDepth 100000 in
theorem rb_lo (a0 a1 : Int) (A2 : Option Addr) (c2 : Nat) (l2 : List Int) (w : World) (hr2 : Kd.C (Kd.int .u8) w A2 l2.length l2) (f0 : goodInoB a0 = true) (f1 : decide (a1 < 0) = true) :
    Calls Try.prog 39 #[.int .i64 a0, .int .i64 a1, .slice A2 l2.length c2] w fun e w' => e = .returned (.tuple #[.agg #[.string ⟨#[]⟩, .string ⟨#[]⟩, .bool false], .int .i64 22]) ∧ Below w.heap.size w w' := by
  have HS : Aside0 (Src (Value.int .u8) w [] A2 l2) := Aside0.mk (Src.of_C (h1 := fun _ => rfl) hr2)
  have HL : Aside0 (l2.length ≤ 9223372036854775807) := Aside0.mk hr2.2.1
  have HA := Aside0.mk (Holds.start w)
  clear hr2
  go_enter Try.func39, Try.ntmps39
  go_wp2_with (first
    | ((with_reducible apply alloc_ (z := (.agg #[.string ⟨#[]⟩, .string ⟨#[]⟩, .bool false]))); (case HH => first | exact HA.out | exact HA.out.any rfl rfl rfl rfl); (case hw => rfl); (case hz => kernel_rfl); (case hx => rfl); intro bz w1 HB_; simp only [Act.put, List.setIfInBounds_toArray, List.set_cons_zero, List.set_cons_succ]; clear HA; have HA := Aside0.mk HB_; clear HB_)
    | ((with_reducible apply store_); (case HH => first | exact HA.out | exact HA.out.any rfl rfl rfl rfl); (case hw => rfl); (case hx => rfl); (case hev => conv => lhs; whnf); (case hy => rfl); (case hm => repeat (first | exact Holds.At.here | apply Holds.At.there)); (case hl => rfl); (case hn => kernel_rfl); (case h1 => simp [Value.oneCell']); (case hi => simp); intro w1 HB_; simp only [splice, List.set_cons_zero, List.set_cons_succ] at HB_; clear HA; have HA := Aside0.mk HB_; clear HB_)
    | (go_at_call 65; (with_reducible refine (rgood_calls _ _).mono ?_); rintro e w' ⟨rfl, ⟨nd, rfl⟩⟩))
  (apply end_list [.cell 6 32, .tmp 7]; (case hres => rfl); (case hd => rfl); (case hvs => apply vcell (by first | exact HA.out | exact HA.out.any rfl rfl rfl rfl); (case hp => rfl); (case hm => repeat (first | exact List.Mem.head _ | refine List.Mem.tail _ ?_)); (case hag => rfl); (case hi => kernel_rfl); (case hvs => apply Vals.tmp; exact .nil)); (case hl => simp); (case hR => exact ⟨rfl, by first | exact HA.out.below | exact (HA.out.drewN _).below | exact (HA.out.any rfl rfl rfl rfl).below⟩))
set_option maxHeartbeats 8000000 in
set_option maxRecDepth 100000 in
theorem rb_hi (a0 a1 : Int) (A2 : Option Addr) (c2 : Nat) (l2 : List Int) (w : World) (hr2 : Kd.C (Kd.int .u8) w A2 l2.length l2) (f0 : goodInoB a0 = true) (f1 : decide (a1 < 0) = false) (f2 : decide (128 ≤ a1) = true) :
    Calls Try.prog 39 #[.int .i64 a0, .int .i64 a1, .slice A2 l2.length c2] w fun e w' => e = .returned (.tuple #[.agg #[.string ⟨#[]⟩, .string ⟨#[]⟩, .bool false], .int .i64 22]) ∧ Below w.heap.size w w' := by
  have HS : Aside0 (Src (Value.int .u8) w [] A2 l2) := Aside0.mk (Src.of_C (h1 := fun _ => rfl) hr2)
  have HL : Aside0 (l2.length ≤ 9223372036854775807) := Aside0.mk hr2.2.1
  have HA := Aside0.mk (Holds.start w)
  clear hr2
  go_enter Try.func39, Try.ntmps39
  go_wp2_with (first
    | ((with_reducible apply alloc_ (z := (.agg #[.string ⟨#[]⟩, .string ⟨#[]⟩, .bool false]))); (case HH => first | exact HA.out | exact HA.out.any rfl rfl rfl rfl); (case hw => rfl); (case hz => kernel_rfl); (case hx => rfl); intro bz w1 HB_; simp only [Act.put, List.setIfInBounds_toArray, List.set_cons_zero, List.set_cons_succ]; clear HA; have HA := Aside0.mk HB_; clear HB_)
    | ((with_reducible apply store_); (case HH => first | exact HA.out | exact HA.out.any rfl rfl rfl rfl); (case hw => rfl); (case hx => rfl); (case hev => conv => lhs; whnf); (case hy => rfl); (case hm => repeat (first | exact Holds.At.here | apply Holds.At.there)); (case hl => rfl); (case hn => kernel_rfl); (case h1 => simp [Value.oneCell']); (case hi => simp); intro w1 HB_; simp only [splice, List.set_cons_zero, List.set_cons_succ] at HB_; clear HA; have HA := Aside0.mk HB_; clear HB_)
    | (go_at_call 65; (with_reducible refine (rgood_calls _ _).mono ?_); rintro e w' ⟨rfl, ⟨nd, rfl⟩⟩))
  (apply end_list [.cell 6 32, .tmp 7]; (case hres => rfl); (case hd => rfl); (case hvs => apply vcell (by first | exact HA.out | exact HA.out.any rfl rfl rfl rfl); (case hp => rfl); (case hm => repeat (first | exact List.Mem.head _ | refine List.Mem.tail _ ?_)); (case hag => rfl); (case hi => kernel_rfl); (case hvs => apply Vals.tmp; exact .nil)); (case hl => simp); (case hR => exact ⟨rfl, by first | exact HA.out.below | exact (HA.out.drewN _).below | exact (HA.out.any rfl rfl rfl rfl).below⟩))
set_option maxHeartbeats 8000000 in
set_option maxRecDepth 100000 in
theorem rb_none (a0 a1 : Int) (A2 : Option Addr) (c2 : Nat) (l2 : List Int) (w : World) (hr2 : Kd.C (Kd.int .u8) w A2 l2.length l2) (f0 : goodInoB a0 = true) (f1 : decide (a1 < 0) = false) (f2 : decide (128 ≤ a1) = false) (f3 : (((l2.length : Nat) : Int) == 0) = true) :
    Calls Try.prog 39 #[.int .i64 a0, .int .i64 a1, .slice A2 l2.length c2] w fun e w' => e = .returned (.tuple #[.agg #[.string ⟨#[]⟩, .string ⟨#[]⟩, .bool false], .int .i64 22]) ∧ Below w.heap.size w w' := by
  have HS : Aside0 (Src (Value.int .u8) w [] A2 l2) := Aside0.mk (Src.of_C (h1 := fun _ => rfl) hr2)
  have HL : Aside0 (l2.length ≤ 9223372036854775807) := Aside0.mk hr2.2.1
  have HA := Aside0.mk (Holds.start w)
  clear hr2
  go_enter Try.func39, Try.ntmps39
  go_wp2_with (first
    | ((with_reducible apply alloc_ (z := (.agg #[.string ⟨#[]⟩, .string ⟨#[]⟩, .bool false]))); (case HH => first | exact HA.out | exact HA.out.any rfl rfl rfl rfl); (case hw => rfl); (case hz => kernel_rfl); (case hx => rfl); intro bz w1 HB_; simp only [Act.put, List.setIfInBounds_toArray, List.set_cons_zero, List.set_cons_succ]; clear HA; have HA := Aside0.mk HB_; clear HB_)
    | ((with_reducible apply store_); (case HH => first | exact HA.out | exact HA.out.any rfl rfl rfl rfl); (case hw => rfl); (case hx => rfl); (case hev => conv => lhs; whnf); (case hy => rfl); (case hm => repeat (first | exact Holds.At.here | apply Holds.At.there)); (case hl => rfl); (case hn => kernel_rfl); (case h1 => simp [Value.oneCell']); (case hi => simp); intro w1 HB_; simp only [splice, List.set_cons_zero, List.set_cons_succ] at HB_; clear HA; have HA := Aside0.mk HB_; clear HB_)
    | (go_at_call 65; (with_reducible refine (rgood_calls _ _).mono ?_); rintro e w' ⟨rfl, ⟨nd, rfl⟩⟩))
  (apply end_list [.cell 6 32, .tmp 7]; (case hres => rfl); (case hd => rfl); (case hvs => apply vcell (by first | exact HA.out | exact HA.out.any rfl rfl rfl rfl); (case hp => rfl); (case hm => repeat (first | exact List.Mem.head _ | refine List.Mem.tail _ ?_)); (case hag => rfl); (case hi => kernel_rfl); (case hvs => apply Vals.tmp; exact .nil)); (case hl => simp); (case hR => exact ⟨rfl, by first | exact HA.out.below | exact (HA.out.drewN _).below | exact (HA.out.any rfl rfl rfl rfl).below⟩))
set_option maxHeartbeats 8000000 in
set_option maxRecDepth 100000 in
theorem rb_big (a0 a1 : Int) (A2 : Option Addr) (c2 : Nat) (l2 : List Int) (w : World) (hr2 : Kd.C (Kd.int .u8) w A2 l2.length l2) (f0 : goodInoB a0 = true) (f1 : decide (a1 < 0) = false) (f2 : decide (128 ≤ a1) = false) (f3 : (((l2.length : Nat) : Int) == 0) = false) (f4 : decide (128 < ((l2.length : Nat) : Int)) = true) :
    Calls Try.prog 39 #[.int .i64 a0, .int .i64 a1, .slice A2 l2.length c2] w fun e w' => e = .returned (.tuple #[.agg #[.string ⟨#[]⟩, .string ⟨#[]⟩, .bool false], .int .i64 22]) ∧ Below w.heap.size w w' := by
  have HS : Aside0 (Src (Value.int .u8) w [] A2 l2) := Aside0.mk (Src.of_C (h1 := fun _ => rfl) hr2)
  have HL : Aside0 (l2.length ≤ 9223372036854775807) := Aside0.mk hr2.2.1
  have HA := Aside0.mk (Holds.start w)
  clear hr2
  go_enter Try.func39, Try.ntmps39
  go_wp2_with (first
    | ((with_reducible apply alloc_ (z := (.agg #[.string ⟨#[]⟩, .string ⟨#[]⟩, .bool false]))); (case HH => first | exact HA.out | exact HA.out.any rfl rfl rfl rfl); (case hw => rfl); (case hz => kernel_rfl); (case hx => rfl); intro bz w1 HB_; simp only [Act.put, List.setIfInBounds_toArray, List.set_cons_zero, List.set_cons_succ]; clear HA; have HA := Aside0.mk HB_; clear HB_)
    | ((with_reducible apply store_); (case HH => first | exact HA.out | exact HA.out.any rfl rfl rfl rfl); (case hw => rfl); (case hx => rfl); (case hev => conv => lhs; whnf); (case hy => rfl); (case hm => repeat (first | exact Holds.At.here | apply Holds.At.there)); (case hl => rfl); (case hn => kernel_rfl); (case h1 => simp [Value.oneCell']); (case hi => simp); intro w1 HB_; simp only [splice, List.set_cons_zero, List.set_cons_succ] at HB_; clear HA; have HA := Aside0.mk HB_; clear HB_)
    | (go_at_call 65; (with_reducible refine (rgood_calls _ _).mono ?_); rintro e w' ⟨rfl, ⟨nd, rfl⟩⟩))
  (apply end_list [.cell 6 32, .tmp 7]; (case hres => rfl); (case hd => rfl); (case hvs => apply vcell (by first | exact HA.out | exact HA.out.any rfl rfl rfl rfl); (case hp => rfl); (case hm => repeat (first | exact List.Mem.head _ | refine List.Mem.tail _ ?_)); (case hag => rfl); (case hi => kernel_rfl); (case hvs => apply Vals.tmp; exact .nil)); (case hl => simp); (case hR => exact ⟨rfl, by first | exact HA.out.below | exact (HA.out.drewN _).below | exact (HA.out.any rfl rfl rfl rfl).below⟩))
set_option maxHeartbeats 8000000 in
set_option maxRecDepth 100000 in
theorem rb_ok (a0 a1 : Int) (A2 : Option Addr) (c2 : Nat) (l2 : List Int) (k : ByteArray) (w : World) (hr2 : Kd.C (Kd.int .u8) w A2 l2.length l2) (f0 : goodInoB a0 = true) (f1 : decide (a1 < 0) = false) (f2 : decide (128 ≤ a1) = false) (f3 : (((l2.length : Nat) : Int) == 0) = false) (f4 : decide (128 < ((l2.length : Nat) : Int)) = false) (hk : pumiceref06_BlockKey.f a0 a1 = some k) :
    Calls Try.prog 39 #[.int .i64 a0, .int .i64 a1, .slice A2 l2.length c2] w fun e w' => e = .returned (.tuple #[.agg #[.string k, .string (strOfNums l2), .bool false], .int .i64 0]) ∧ Below w.heap.size w w' := by
  have HS : Aside0 (Src (Value.int .u8) w [] A2 l2) := Aside0.mk (Src.of_C (h1 := fun _ => rfl) hr2)
  have HL : Aside0 (l2.length ≤ 9223372036854775807) := Aside0.mk hr2.2.1
  have HA := Aside0.mk (Holds.start w)
  have HK := Aside0.mk hk
  clear hr2 hk
  go_enter Try.func39, Try.ntmps39
  go_wp2_with (first
    | ((with_reducible apply alloc_ (z := (.agg #[.string ⟨#[]⟩, .string ⟨#[]⟩, .bool false]))); (case HH => first | exact HA.out | exact HA.out.any rfl rfl rfl rfl); (case hw => rfl); (case hz => kernel_rfl); (case hx => rfl); intro bz w1 HB_; simp only [Act.put, List.setIfInBounds_toArray, List.set_cons_zero, List.set_cons_succ]; clear HA; have HA := Aside0.mk HB_; clear HB_)
    | ((with_reducible apply store_); (case HH => first | exact HA.out | exact HA.out.any rfl rfl rfl rfl); (case hw => rfl); (case hx => rfl); (case hev => conv => lhs; whnf); (case hy => rfl); (case hm => repeat (first | exact Holds.At.here | apply Holds.At.there)); (case hl => rfl); (case hn => kernel_rfl); (case h1 => simp [Value.oneCell']); (case hi => simp); intro w1 HB_; simp only [splice, List.set_cons_zero, List.set_cons_succ] at HB_; clear HA; have HA := Aside0.mk HB_; clear HB_)
    | (go_at_call 65; (with_reducible refine (rgood_calls _ _).mono ?_); rintro e w' ⟨rfl, ⟨nd, rfl⟩⟩))
  refine start_H (by first | exact HA.out | exact HA.out.any rfl rfl rfl rfl) (n := 8) [6] #[false, false, false, false, false, false, false, false] (by kernel_rfl) rfl rfl ?_
  refine pure_ (i := 0) (N := some 30) (v := ?_) (a' := ?_) #[true, false, false, false, false, false, false, false] rfl rfl (by kernel_rfl) (fun _ _ _ h => h) (Or.inl ⟨by rfl, ?_⟩) ?_ ?_
  rotate_left
  · intro w'
    go_simp
    with_reducible rfl
  rotate_left
  · simp only [Act.put, List.setIfInBounds_toArray, List.set_cons_zero, List.set_cons_succ, i64_w, i32_w]
    rfl
  refine pure_ (i := 1) (N := some 31) (v := ?_) (a' := ?_) #[true, true, false, false, false, false, false, false] rfl rfl (by kernel_rfl) (fun _ _ _ h => h) (Or.inl ⟨by rfl, ?_⟩) ?_ ?_
  rotate_left
  · intro w'
    go_simp
    with_reducible rfl
  rotate_left
  · simp only [Act.put, List.setIfInBounds_toArray, List.set_cons_zero, List.set_cons_succ, i64_w, i32_w]
    rfl
  refine pure_ (i := 3) (N := some 33) (v := ?_) (a' := ?_) #[true, true, false, true, false, false, false, false] rfl rfl (by kernel_rfl) (fun _ _ _ h => h) (Or.inl ⟨by rfl, ?_⟩) ?_ ?_
  rotate_left
  · intro w'
    go_simp
    with_reducible rfl
  rotate_left
  · simp only [Act.put, List.setIfInBounds_toArray, List.set_cons_zero, List.set_cons_succ, i64_w, i32_w]
    rfl
  refine take_ (i := 4) (N := some 34) (v := (.string (strOfNums l2))) (a' := ?_) #[true, true, false, true, true, false, false, false] rfl rfl (by kernel_rfl) (fun _ _ _ h => h) (Or.inl ⟨by rfl, ?_⟩) (by first | exact HA.out | exact HA.out.any rfl rfl rfl rfl | exact (HA.out.any rfl rfl rfl rfl).tail | exact (HA.out.any rfl rfl rfl rfl).tail.tail | exact (HA.out.any rfl rfl rfl rfl).tail.tail.tail) ?_ ?_
  · intro w' s0
    (exact run_text_b rfl rfl Try.underlying34 Try.underlying5 Try.underlying9 ((HS.out.mono (by simp)).C (h1 := fun _ => rfl) s0 HL.out))
  rotate_left
  · simp only [Act.put, List.setIfInBounds_toArray, List.set_cons_zero, List.set_cons_succ, i64_w, i32_w]
    rfl
  refine one_ (i := 2) (N := some 32) #[true, true, true, true, true, false, false, false] rfl rfl (by kernel_rfl) (by decide) (fun K hK => ?_)
  apply call_e Try.func68 (args := #[.int .i64 a0, .int .i64 a1]); (case hname => kernel_rfl); (case hb => rfl); (case hop => rfl); (case hN => rfl); (case hw => rfl); (case hargs => ((try simp only [List.map_toArray, List.map_cons, List.map_nil]); first | done | rfl)); (case hcl => exact pumiceref06_BlockKey.calls a0 a1 _ _ HK.out); rintro e w1 ⟨rfl, hb_⟩; refine ⟨_, rfl, ?_⟩; (have HB_ := HA.out.call1 hb_ rfl rfl rfl rfl; clear hb_ HA; have HA := Aside0.mk HB_; clear HB_)
  refine hK.out _ _ (by first | exact HA.out | exact HA.out.any rfl rfl rfl rfl | exact (HA.out.any rfl rfl rfl rfl).tail | exact (HA.out.any rfl rfl rfl rfl).tail.tail | exact (HA.out.any rfl rfl rfl rfl).tail.tail.tail) (fun hHeld => ?_)
  clear hK K
  refine norm_ (a' := ?_) ?_ ?_
  rotate_left
  · show Act.put _ (some 32) _ = _
    simp only [Act.put, List.setIfInBounds_toArray, List.set_cons_zero, List.set_cons_succ, i64_w, i32_w]
    rfl
  refine pure_ (i := 5) (N := some 35) (v := ?_) (a' := ?_) #[true, true, true, true, true, true, false, false] rfl rfl (by kernel_rfl) (fun _ _ _ h => h) (Or.inl ⟨by rfl, ?_⟩) ?_ ?_
  rotate_left
  · intro w'
    go_simp
    with_reducible rfl
  rotate_left
  · simp only [Act.put, List.setIfInBounds_toArray, List.set_cons_zero, List.set_cons_succ, i64_w, i32_w]
    rfl
  refine last_ (i := 6) (N := none) #[true, true, true, true, true, true, true, false] rfl rfl (by kernel_rfl) (by decide) (fun K hK => ?_)
  apply store_e; (case HH => first | exact HA.out | exact HA.out.any rfl rfl rfl rfl); (case hop => rfl); (case hN => rfl); (case hw => rfl); (case hx => rfl); (case hev => conv => lhs; whnf); (case hy => rfl); (case hm => repeat (first | exact Holds.At.here | apply Holds.At.there)); (case hl => rfl); (case hn => kernel_rfl); (case h1 => simp [Value.oneCell']); (case hi => simp); intro w1 HB_; simp only [splice, List.set_cons_zero, List.set_cons_succ] at HB_; clear HA; have HA := Aside0.mk HB_; clear HB_
  refine hK.out _ _ ?_
  clear hK K
  refine pure_ (i := 7) (N := some 7) (v := ?_) (a' := ?_) #[true, true, true, true, true, true, true, true] rfl rfl (by kernel_rfl) (fun _ _ _ h => h) (Or.inl ⟨by rfl, ?_⟩) ?_ ?_
  rotate_left
  · intro w'
    go_simp
    with_reducible rfl
  rotate_left
  · simp only [Act.put, List.setIfInBounds_toArray, List.set_cons_zero, List.set_cons_succ, i64_w, i32_w]
    rfl
  refine done_ (by kernel_rfl) ?_
  go_wp2
  (apply end_list [.cell 6 32, .tmp 7]; (case hres => rfl); (case hd => rfl); (case hvs => apply vcell (by first | exact HA.out | exact HA.out.any rfl rfl rfl rfl); (case hp => rfl); (case hm => repeat (first | exact List.Mem.head _ | refine List.Mem.tail _ ?_)); (case hag => rfl); (case hi => kernel_rfl); (case hvs => apply Vals.tmp; exact .nil)); (case hl => simp); (case hR => exact ⟨rfl, by first | exact HA.out.below | exact (HA.out.drewN _).below | exact (HA.out.any rfl rfl rfl rfl).below⟩))
def pumiceref06_Block.f (a0 a1 : Int) (l2 : List Int) : Option (ByteArray × ByteArray × Bool × Int) :=
  if goodInoB a0 = true ∧ goodBlockB a1 = true ∧ l2.length ≠ 0 ∧ l2.length ≤ 128 then (pumiceref06_BlockKey.f a0 a1).bind fun k => some (k, strOfNums l2, false, 0) else some (⟨#[]⟩, ⟨#[]⟩, false, 22)
theorem pumiceref06_Block.calls (a0 a1 : Int) (A2 : Option Addr) (c2 : Nat) (l2 : List Int) (r1 r2 : ByteArray) (r3 : Bool) (r4 : Int) (w : World) (hr2 : Kd.C (Kd.int .u8) w A2 l2.length l2) (hc2 : l2.length ≤ c2) (h : pumiceref06_Block.f a0 a1 l2 = some (r1, r2, r3, r4)) :
    Calls Try.prog 39 #[.int .i64 a0, .int .i64 a1, .slice A2 l2.length c2] w fun e w' => e = .returned (.tuple #[.agg #[.string r1, .string r2, .bool r3], .int .i64 r4]) ∧ Below w.heap.size w w' := by
  unfold pumiceref06_Block.f at h
  by_cases h1 : goodInoB a0 = true
  rotate_left
  · rw [if_neg (fun hh => h1 hh.1)] at h
    simp only [Option.some.injEq, Prod.mk.injEq] at h
    obtain ⟨rfl, rfl, rfl, rfl⟩ := h
    exact rb_ino a0 a1 A2 c2 l2 w hr2 (by simpa using h1)
  by_cases h2 : goodBlockB a1 = true
  rotate_left
  · rw [if_neg (fun hh => h2 hh.2.1)] at h
    simp only [Option.some.injEq, Prod.mk.injEq] at h
    obtain ⟨rfl, rfl, rfl, rfl⟩ := h
    by_cases hl : a1 < 0
    · exact rb_lo a0 a1 A2 c2 l2 w hr2 h1 (decide_eq_true hl)
    · exact rb_hi a0 a1 A2 c2 l2 w hr2 h1 (decide_eq_false hl) (decide_eq_true (by
        unfold goodBlockB at h2
        simp only [Bool.and_eq_true, decide_eq_true_eq] at h2
        omega))
  have hr : 0 ≤ a1 ∧ a1 < 128 := by
    unfold goodBlockB at h2
    simpa only [Bool.and_eq_true, decide_eq_true_eq] using h2
  have hlo : decide (a1 < 0) = false := decide_eq_false (by omega)
  have hhi : decide (128 ≤ a1) = false := decide_eq_false (by omega)
  by_cases h3 : l2.length = 0
  · rw [if_neg (fun hh => hh.2.2.1 h3)] at h
    simp only [Option.some.injEq, Prod.mk.injEq] at h
    obtain ⟨rfl, rfl, rfl, rfl⟩ := h
    exact rb_none a0 a1 A2 c2 l2 w hr2 h1 hlo hhi (by rw [h3]; rfl)
  have h3' : (((l2.length : Nat) : Int) == 0) = false := by simpa using h3
  by_cases h4 : l2.length ≤ 128
  · rw [if_pos ⟨h1, h2, h3, h4⟩] at h
    obtain ⟨k, hk, h⟩ := Option.bind_eq_some_iff.mp h
    simp only [Option.some.injEq, Prod.mk.injEq] at h
    obtain ⟨rfl, rfl, rfl, rfl⟩ := h
    exact rb_ok a0 a1 A2 c2 l2 _ w hr2 h1 hlo hhi h3' (decide_eq_false (by omega)) hk
  · rw [if_neg (fun hh => h4 hh.2.2.2)] at h
    simp only [Option.some.injEq, Prod.mk.injEq] at h
    obtain ⟨rfl, rfl, rfl, rfl⟩ := h
    exact rb_big a0 a1 A2 c2 l2 w hr2 h1 hlo hhi h3' (decide_eq_true (by omega))
end Go.Proofs.Ytakchpeohmkpkaa.Q

namespace Go.Proofs.Ytakchpeohmkpkaa.Q
open Go.RowKit Go.Proofs.YtakchpeohmkpkaaW.PrintWords Go.Proofs.YtakchpeohmkpkaaW.PrintLast Go.Proofs.YtakchpeohmkpkaaW.PrintMore Go.Proofs.Ytakchpeohmkpkaa.Sep
set_option linter.unusedVariables false
set_option linter.unusedSimpArgs false
set_option maxHeartbeats 8000000 in
set_option maxRecDepth 100000 in
/-- (*reader).done -/
theorem done_calls (g : Nat) (A : Option Addr) (c at_ : Nat) (xs : List Int) (w0 w : World) (H H' : Frag) (HH : Holds w0 w H) (hm : (g, RdB A c xs at_) ∈ H) :
    Calls Try.prog 52 #[.pointer (some ⟨g, 0, none⟩)] w fun e w' => e = .returned (.bool ((at_ : Int) == (xs.length : Int))) ∧ Drawn0 w w' := by
  have c0 := HH.cell hm (i := 0) rfl
  have c1 := HH.cell hm (i := 1) rfl
  clear HH hm
  go_enter Try.func52, Try.ntmps52
  go_wp2
  go_quiet (fail)
  go_wp2
  go_ret
  exact ⟨by first | rfl | (simp; done), by repeat (first | exact Drawn0.refl _ | apply Drawn0.step)⟩
set_option maxHeartbeats 8000000 in
set_option maxRecDepth 100000 in
theorem parseInode_ok (k v : ByteArray) (g : Bool) (kd ino bl : Int) (nm : ByteArray) (w : World) (hk : node_Kind.f k = some (kd, ino, nm, bl)) (hv : v.size ≤ 281474976710656) (f0 : g = false) (f1 : (kd == 1) = true) (f2 : (kd != 1) = false) (f3 : ((((pos (bytesOf v) (pos (bytesOf v) (pos (bytesOf v) (pos (bytesOf v) (pos (bytesOf v) (pos (bytesOf v) 0 1) 2) 2) 2) 2) 4) : Nat) : Int) == ((bytesOf v).length : Int)) = true) (f4 : rightInode (ino) (leVal (nxt (bytesOf v) 0 1)) (leVal (nxt (bytesOf v) (pos (bytesOf v) 0 1) 2)) (leVal (nxt (bytesOf v) (pos (bytesOf v) (pos (bytesOf v) 0 1) 2) 2)) (leVal (nxt (bytesOf v) (pos (bytesOf v) (pos (bytesOf v) (pos (bytesOf v) 0 1) 2) 2) 2)) (leVal (nxt (bytesOf v) (pos (bytesOf v) (pos (bytesOf v) (pos (bytesOf v) (pos (bytesOf v) 0 1) 2) 2) 2) 2)) (leVal (nxt (bytesOf v) (pos (bytesOf v) (pos (bytesOf v) (pos (bytesOf v) (pos (bytesOf v) (pos (bytesOf v) 0 1) 2) 2) 2) 2) 4)) = true) :
    Calls Try.prog 34 #[.agg #[.string k, .string v, .bool g]] w fun e w' => e = .returned (.tuple #[.agg #[.int .i64 (ino), .int .i64 (leVal (nxt (bytesOf v) 0 1)), .int .i64 (leVal (nxt (bytesOf v) (pos (bytesOf v) 0 1) 2)), .int .i64 (leVal (nxt (bytesOf v) (pos (bytesOf v) (pos (bytesOf v) 0 1) 2) 2)), .int .i64 (leVal (nxt (bytesOf v) (pos (bytesOf v) (pos (bytesOf v) (pos (bytesOf v) 0 1) 2) 2) 2)), .int .i64 (leVal (nxt (bytesOf v) (pos (bytesOf v) (pos (bytesOf v) (pos (bytesOf v) (pos (bytesOf v) 0 1) 2) 2) 2) 2)), .int .i64 (leVal (nxt (bytesOf v) (pos (bytesOf v) (pos (bytesOf v) (pos (bytesOf v) (pos (bytesOf v) (pos (bytesOf v) 0 1) 2) 2) 2) 2) 4))], .bool true]) ∧ Below w.heap.size w w' := by
  try subst f0
  have HK := Aside0.mk hk
  have hby : Aside0 (Bytes (bytesOf v)) := Aside0.mk (bytes_of v)
  have HA := Aside0.mk (Holds.start w)
  clear hk
  have HR := Aside0.mk (show node_right.f (ino) (leVal (nxt (bytesOf v) 0 1)) (leVal (nxt (bytesOf v) (pos (bytesOf v) 0 1) 2)) (leVal (nxt (bytesOf v) (pos (bytesOf v) (pos (bytesOf v) 0 1) 2) 2)) (leVal (nxt (bytesOf v) (pos (bytesOf v) (pos (bytesOf v) (pos (bytesOf v) 0 1) 2) 2) 2)) (leVal (nxt (bytesOf v) (pos (bytesOf v) (pos (bytesOf v) (pos (bytesOf v) (pos (bytesOf v) 0 1) 2) 2) 2) 2)) (leVal (nxt (bytesOf v) (pos (bytesOf v) (pos (bytesOf v) (pos (bytesOf v) (pos (bytesOf v) (pos (bytesOf v) 0 1) 2) 2) 2) 2) 4)) = some true by unfold node_right.f; rw [f4])
  go_enter Try.func34, Try.ntmps34
  go_wp2_with (first
    | ((with_reducible apply load1_); (case HH => first | exact HA.out | exact HA.out.any rfl rfl rfl rfl); (case ht => rfl); (case hx => rfl); (case hw => rfl); (case hm => repeat (first | exact List.Mem.head _ | refine List.Mem.tail _ ?_)); (case hv => exact rfl); simp only [Act.put, List.setIfInBounds_toArray, List.set_cons_zero, List.set_cons_succ])
    | ((with_reducible apply loadN_ (n := 7)); (case HH => first | exact HA.out | exact HA.out.any rfl rfl rfl rfl); (case ht => rfl); (case hn => decide +kernel); (case hx => rfl); (case hw => rfl); (case hm => repeat (first | exact List.Mem.head _ | refine List.Mem.tail _ ?_)); (case hv => first | (simp only [List.drop_succ_cons, List.drop_zero, List.take_succ_cons, List.take_zero]; rfl) | rfl); (case hl => rfl); simp only [Act.put, List.setIfInBounds_toArray, List.set_cons_zero, List.set_cons_succ])
    | ((with_reducible apply box_); (case HH => first | exact HA.out | exact HA.out.any rfl rfl rfl rfl); (case hw => rfl); (case hev => conv => lhs; whnf); (case hy => rfl); intro bx w1 HB_; simp only [Act.put, List.setIfInBounds_toArray, List.set_cons_zero, List.set_cons_succ]; clear HA; have HA := Aside0.mk HB_; clear HB_)
    | ((with_reducible apply alloc_ (z := .agg #[.int .i64 0, .int .i64 0, .int .i64 0, .int .i64 0, .int .i64 0, .int .i64 0, .int .i64 0])); (case HH => first | exact HA.out | exact HA.out.any rfl rfl rfl rfl); (case hw => rfl); (case hz => kernel_rfl); (case hx => rfl); intro bx w1 HB_; simp only [Act.put, List.setIfInBounds_toArray, List.set_cons_zero, List.set_cons_succ]; clear HA; have HA := Aside0.mk HB_; clear HB_)
    | ((with_reducible apply store_); (case HH => first | exact HA.out | exact HA.out.any rfl rfl rfl rfl); (case hw => rfl); (case hx => rfl); (case hev => conv => lhs; whnf); (case hy => rfl); (case hm => repeat (first | exact Holds.At.here | apply Holds.At.there)); (case hl => rfl); (case hn => kernel_rfl); (case h1 => simp [Value.oneCell']); (case hi => simp); intro w1 HB_; simp only [splice, List.set_cons_zero, List.set_cons_succ] at HB_; clear HA; have HA := Aside0.mk HB_; clear HB_)
    | (go_at_call 30; (with_reducible refine (node_Kind.calls k kd ino nm bl _ HK.out).mono ?_); rintro e w1 ⟨rfl, hb_⟩; have HB_ := HA.out.call1 hb_ rfl rfl rfl rfl; clear hb_; clear HA; have HA := Aside0.mk HB_; clear HB_)
    | ((with_reducible apply conv_); (case HH => first | exact HA.out | exact HA.out.any rfl rfl rfl rfl); (case hw => rfl); (case hev => conv => lhs; whnf); (case hv => rfl); (case hs => exact Try.underlying9); (case hd => exact Try.underlying34); (case he => exact Try.underlying5); intro bs w1 obs capbs HB_ HSbs hcapbs; have HSbs := Aside0.mk HSbs; have hcapbs := Aside0.mk hcapbs; simp only [Act.put, List.setIfInBounds_toArray, List.set_cons_zero, List.set_cons_succ]; clear HA; have HA := Aside0.mk HB_; clear HB_)
    | (go_at_call 50; (with_reducible apply Calls.mono); (case h => go_loud (exact number_at (by first | exact HA.out | exact HA.out.any rfl rfl rfl rfl) (by repeat (first | exact Holds.At.here | apply Holds.At.there)) (by rw [bytesOf_length]; exact hv) hcapbs.out (by first | exact pos_le _ _ _ | exact Nat.zero_le _ | omega) (by decide) (HSbs.out.mono (by simp)) hby.out)); rintro e w1 ⟨rfl, HB_⟩; clear HA; have HA := Aside0.mk HB_; clear HB_)
    | (go_at_call 52; (with_reducible apply Calls.mono); (case h => exact done_calls _ _ _ _ (bytesOf v) w _ _ [] (by first | exact HA.out | exact HA.out.any rfl rfl rfl rfl) (by repeat (first | exact List.Mem.head _ | refine List.Mem.tail _ ?_))); rintro e w' ⟨rfl, ⟨nd, rfl⟩⟩)
    | (go_at_call 59; (with_reducible refine (node_right.calls (ino) (leVal (nxt (bytesOf v) 0 1)) (leVal (nxt (bytesOf v) (pos (bytesOf v) 0 1) 2)) (leVal (nxt (bytesOf v) (pos (bytesOf v) (pos (bytesOf v) 0 1) 2) 2)) (leVal (nxt (bytesOf v) (pos (bytesOf v) (pos (bytesOf v) (pos (bytesOf v) 0 1) 2) 2) 2)) (leVal (nxt (bytesOf v) (pos (bytesOf v) (pos (bytesOf v) (pos (bytesOf v) (pos (bytesOf v) 0 1) 2) 2) 2) 2)) (leVal (nxt (bytesOf v) (pos (bytesOf v) (pos (bytesOf v) (pos (bytesOf v) (pos (bytesOf v) (pos (bytesOf v) 0 1) 2) 2) 2) 2) 4)) _ _ HR.out).mono ?_); rintro e w1 ⟨rfl, hb_⟩; have HB_ := HA.out.call1 hb_ rfl rfl rfl rfl; clear hb_; clear HA; have HA := Aside0.mk HB_; clear HB_))
  (apply end_list [.cell 2 52, .tmp 3]; (case hres => rfl); (case hd => rfl); (case hvs => apply vcell (by first | exact HA.out | exact HA.out.any rfl rfl rfl rfl); (case hp => rfl); (case hm => repeat (first | exact List.Mem.head _ | refine List.Mem.tail _ ?_)); (case hag => rfl); (case hi => kernel_rfl); (case hvs => apply Vals.tmp; exact .nil)); (case hl => simp); (case hR => exact ⟨rfl, HA.out.below⟩))
set_option maxHeartbeats 8000000 in
set_option maxRecDepth 100000 in
theorem parseInode_g (k v : ByteArray) (g : Bool) (kd ino bl : Int) (nm : ByteArray) (w : World) (hk : node_Kind.f k = some (kd, ino, nm, bl)) (hv : v.size ≤ 281474976710656) (f0 : g = true) :
    Calls Try.prog 34 #[.agg #[.string k, .string v, .bool g]] w fun e w' => e = .returned (.tuple #[.agg #[.int .i64 (0), .int .i64 (0), .int .i64 (0), .int .i64 (0), .int .i64 (0), .int .i64 (0), .int .i64 (0)], .bool false]) ∧ Below w.heap.size w w' := by
  try subst f0
  have HK := Aside0.mk hk
  have hby : Aside0 (Bytes (bytesOf v)) := Aside0.mk (bytes_of v)
  have HA := Aside0.mk (Holds.start w)
  clear hk
  go_enter Try.func34, Try.ntmps34
  go_wp2_with (first
    | ((with_reducible apply load1_); (case HH => first | exact HA.out | exact HA.out.any rfl rfl rfl rfl); (case ht => rfl); (case hx => rfl); (case hw => rfl); (case hm => repeat (first | exact List.Mem.head _ | refine List.Mem.tail _ ?_)); (case hv => exact rfl); simp only [Act.put, List.setIfInBounds_toArray, List.set_cons_zero, List.set_cons_succ])
    | ((with_reducible apply loadN_ (n := 7)); (case HH => first | exact HA.out | exact HA.out.any rfl rfl rfl rfl); (case ht => rfl); (case hn => decide +kernel); (case hx => rfl); (case hw => rfl); (case hm => repeat (first | exact List.Mem.head _ | refine List.Mem.tail _ ?_)); (case hv => first | (simp only [List.drop_succ_cons, List.drop_zero, List.take_succ_cons, List.take_zero]; rfl) | rfl); (case hl => rfl); simp only [Act.put, List.setIfInBounds_toArray, List.set_cons_zero, List.set_cons_succ])
    | ((with_reducible apply box_); (case HH => first | exact HA.out | exact HA.out.any rfl rfl rfl rfl); (case hw => rfl); (case hev => conv => lhs; whnf); (case hy => rfl); intro bx w1 HB_; simp only [Act.put, List.setIfInBounds_toArray, List.set_cons_zero, List.set_cons_succ]; clear HA; have HA := Aside0.mk HB_; clear HB_)
    | ((with_reducible apply alloc_ (z := .agg #[.int .i64 0, .int .i64 0, .int .i64 0, .int .i64 0, .int .i64 0, .int .i64 0, .int .i64 0])); (case HH => first | exact HA.out | exact HA.out.any rfl rfl rfl rfl); (case hw => rfl); (case hz => kernel_rfl); (case hx => rfl); intro bx w1 HB_; simp only [Act.put, List.setIfInBounds_toArray, List.set_cons_zero, List.set_cons_succ]; clear HA; have HA := Aside0.mk HB_; clear HB_)
    | ((with_reducible apply store_); (case HH => first | exact HA.out | exact HA.out.any rfl rfl rfl rfl); (case hw => rfl); (case hx => rfl); (case hev => conv => lhs; whnf); (case hy => rfl); (case hm => repeat (first | exact Holds.At.here | apply Holds.At.there)); (case hl => rfl); (case hn => kernel_rfl); (case h1 => simp [Value.oneCell']); (case hi => simp); intro w1 HB_; simp only [splice, List.set_cons_zero, List.set_cons_succ] at HB_; clear HA; have HA := Aside0.mk HB_; clear HB_)
    | (go_at_call 30; (with_reducible refine (node_Kind.calls k kd ino nm bl _ HK.out).mono ?_); rintro e w1 ⟨rfl, hb_⟩; have HB_ := HA.out.call1 hb_ rfl rfl rfl rfl; clear hb_; clear HA; have HA := Aside0.mk HB_; clear HB_)
    | ((with_reducible apply conv_); (case HH => first | exact HA.out | exact HA.out.any rfl rfl rfl rfl); (case hw => rfl); (case hev => conv => lhs; whnf); (case hv => rfl); (case hs => exact Try.underlying9); (case hd => exact Try.underlying34); (case he => exact Try.underlying5); intro bs w1 obs capbs HB_ HSbs hcapbs; have HSbs := Aside0.mk HSbs; have hcapbs := Aside0.mk hcapbs; simp only [Act.put, List.setIfInBounds_toArray, List.set_cons_zero, List.set_cons_succ]; clear HA; have HA := Aside0.mk HB_; clear HB_)
    | (go_at_call 50; (with_reducible apply Calls.mono); (case h => go_loud (exact number_at (by first | exact HA.out | exact HA.out.any rfl rfl rfl rfl) (by repeat (first | exact Holds.At.here | apply Holds.At.there)) (by rw [bytesOf_length]; exact hv) hcapbs.out (by first | exact pos_le _ _ _ | exact Nat.zero_le _ | omega) (by decide) (HSbs.out.mono (by simp)) hby.out)); rintro e w1 ⟨rfl, HB_⟩; clear HA; have HA := Aside0.mk HB_; clear HB_)
    | (go_at_call 52; (with_reducible apply Calls.mono); (case h => exact done_calls _ _ _ _ (bytesOf v) w _ _ [] (by first | exact HA.out | exact HA.out.any rfl rfl rfl rfl) (by repeat (first | exact List.Mem.head _ | refine List.Mem.tail _ ?_))); rintro e w' ⟨rfl, ⟨nd, rfl⟩⟩))
  (apply end_list [.cell 2 52, .tmp 3]; (case hres => rfl); (case hd => rfl); (case hvs => apply vcell (by first | exact HA.out | exact HA.out.any rfl rfl rfl rfl); (case hp => rfl); (case hm => repeat (first | exact List.Mem.head _ | refine List.Mem.tail _ ?_)); (case hag => rfl); (case hi => kernel_rfl); (case hvs => apply Vals.tmp; exact .nil)); (case hl => simp); (case hR => exact ⟨rfl, HA.out.below⟩))
set_option maxHeartbeats 8000000 in
set_option maxRecDepth 100000 in
theorem parseInode_k (k v : ByteArray) (g : Bool) (kd ino bl : Int) (nm : ByteArray) (w : World) (hk : node_Kind.f k = some (kd, ino, nm, bl)) (hv : v.size ≤ 281474976710656) (f0 : g = false) (f1 : (kd == 1) = false) (f2 : (kd != 1) = true) :
    Calls Try.prog 34 #[.agg #[.string k, .string v, .bool g]] w fun e w' => e = .returned (.tuple #[.agg #[.int .i64 (0), .int .i64 (0), .int .i64 (0), .int .i64 (0), .int .i64 (0), .int .i64 (0), .int .i64 (0)], .bool false]) ∧ Below w.heap.size w w' := by
  try subst f0
  have HK := Aside0.mk hk
  have hby : Aside0 (Bytes (bytesOf v)) := Aside0.mk (bytes_of v)
  have HA := Aside0.mk (Holds.start w)
  clear hk
  go_enter Try.func34, Try.ntmps34
  go_wp2_with (first
    | ((with_reducible apply load1_); (case HH => first | exact HA.out | exact HA.out.any rfl rfl rfl rfl); (case ht => rfl); (case hx => rfl); (case hw => rfl); (case hm => repeat (first | exact List.Mem.head _ | refine List.Mem.tail _ ?_)); (case hv => exact rfl); simp only [Act.put, List.setIfInBounds_toArray, List.set_cons_zero, List.set_cons_succ])
    | ((with_reducible apply loadN_ (n := 7)); (case HH => first | exact HA.out | exact HA.out.any rfl rfl rfl rfl); (case ht => rfl); (case hn => decide +kernel); (case hx => rfl); (case hw => rfl); (case hm => repeat (first | exact List.Mem.head _ | refine List.Mem.tail _ ?_)); (case hv => first | (simp only [List.drop_succ_cons, List.drop_zero, List.take_succ_cons, List.take_zero]; rfl) | rfl); (case hl => rfl); simp only [Act.put, List.setIfInBounds_toArray, List.set_cons_zero, List.set_cons_succ])
    | ((with_reducible apply box_); (case HH => first | exact HA.out | exact HA.out.any rfl rfl rfl rfl); (case hw => rfl); (case hev => conv => lhs; whnf); (case hy => rfl); intro bx w1 HB_; simp only [Act.put, List.setIfInBounds_toArray, List.set_cons_zero, List.set_cons_succ]; clear HA; have HA := Aside0.mk HB_; clear HB_)
    | ((with_reducible apply alloc_ (z := .agg #[.int .i64 0, .int .i64 0, .int .i64 0, .int .i64 0, .int .i64 0, .int .i64 0, .int .i64 0])); (case HH => first | exact HA.out | exact HA.out.any rfl rfl rfl rfl); (case hw => rfl); (case hz => kernel_rfl); (case hx => rfl); intro bx w1 HB_; simp only [Act.put, List.setIfInBounds_toArray, List.set_cons_zero, List.set_cons_succ]; clear HA; have HA := Aside0.mk HB_; clear HB_)
    | ((with_reducible apply store_); (case HH => first | exact HA.out | exact HA.out.any rfl rfl rfl rfl); (case hw => rfl); (case hx => rfl); (case hev => conv => lhs; whnf); (case hy => rfl); (case hm => repeat (first | exact Holds.At.here | apply Holds.At.there)); (case hl => rfl); (case hn => kernel_rfl); (case h1 => simp [Value.oneCell']); (case hi => simp); intro w1 HB_; simp only [splice, List.set_cons_zero, List.set_cons_succ] at HB_; clear HA; have HA := Aside0.mk HB_; clear HB_)
    | (go_at_call 30; (with_reducible refine (node_Kind.calls k kd ino nm bl _ HK.out).mono ?_); rintro e w1 ⟨rfl, hb_⟩; have HB_ := HA.out.call1 hb_ rfl rfl rfl rfl; clear hb_; clear HA; have HA := Aside0.mk HB_; clear HB_)
    | ((with_reducible apply conv_); (case HH => first | exact HA.out | exact HA.out.any rfl rfl rfl rfl); (case hw => rfl); (case hev => conv => lhs; whnf); (case hv => rfl); (case hs => exact Try.underlying9); (case hd => exact Try.underlying34); (case he => exact Try.underlying5); intro bs w1 obs capbs HB_ HSbs hcapbs; have HSbs := Aside0.mk HSbs; have hcapbs := Aside0.mk hcapbs; simp only [Act.put, List.setIfInBounds_toArray, List.set_cons_zero, List.set_cons_succ]; clear HA; have HA := Aside0.mk HB_; clear HB_)
    | (go_at_call 50; (with_reducible apply Calls.mono); (case h => go_loud (exact number_at (by first | exact HA.out | exact HA.out.any rfl rfl rfl rfl) (by repeat (first | exact Holds.At.here | apply Holds.At.there)) (by rw [bytesOf_length]; exact hv) hcapbs.out (by first | exact pos_le _ _ _ | exact Nat.zero_le _ | omega) (by decide) (HSbs.out.mono (by simp)) hby.out)); rintro e w1 ⟨rfl, HB_⟩; clear HA; have HA := Aside0.mk HB_; clear HB_)
    | (go_at_call 52; (with_reducible apply Calls.mono); (case h => exact done_calls _ _ _ _ (bytesOf v) w _ _ [] (by first | exact HA.out | exact HA.out.any rfl rfl rfl rfl) (by repeat (first | exact List.Mem.head _ | refine List.Mem.tail _ ?_))); rintro e w' ⟨rfl, ⟨nd, rfl⟩⟩))
  (apply end_list [.cell 2 52, .tmp 3]; (case hres => rfl); (case hd => rfl); (case hvs => apply vcell (by first | exact HA.out | exact HA.out.any rfl rfl rfl rfl); (case hp => rfl); (case hm => repeat (first | exact List.Mem.head _ | refine List.Mem.tail _ ?_)); (case hag => rfl); (case hi => kernel_rfl); (case hvs => apply Vals.tmp; exact .nil)); (case hl => simp); (case hR => exact ⟨rfl, HA.out.below⟩))
set_option maxHeartbeats 8000000 in
set_option maxRecDepth 100000 in
theorem parseInode_d (k v : ByteArray) (g : Bool) (kd ino bl : Int) (nm : ByteArray) (w : World) (hk : node_Kind.f k = some (kd, ino, nm, bl)) (hv : v.size ≤ 281474976710656) (f0 : g = false) (f1 : (kd == 1) = true) (f2 : (kd != 1) = false) (f3 : ((((pos (bytesOf v) (pos (bytesOf v) (pos (bytesOf v) (pos (bytesOf v) (pos (bytesOf v) (pos (bytesOf v) 0 1) 2) 2) 2) 2) 4) : Nat) : Int) == ((bytesOf v).length : Int)) = false) :
    Calls Try.prog 34 #[.agg #[.string k, .string v, .bool g]] w fun e w' => e = .returned (.tuple #[.agg #[.int .i64 (0), .int .i64 (0), .int .i64 (0), .int .i64 (0), .int .i64 (0), .int .i64 (0), .int .i64 (0)], .bool false]) ∧ Below w.heap.size w w' := by
  try subst f0
  have HK := Aside0.mk hk
  have hby : Aside0 (Bytes (bytesOf v)) := Aside0.mk (bytes_of v)
  have HA := Aside0.mk (Holds.start w)
  clear hk
  go_enter Try.func34, Try.ntmps34
  go_wp2_with (first
    | ((with_reducible apply load1_); (case HH => first | exact HA.out | exact HA.out.any rfl rfl rfl rfl); (case ht => rfl); (case hx => rfl); (case hw => rfl); (case hm => repeat (first | exact List.Mem.head _ | refine List.Mem.tail _ ?_)); (case hv => exact rfl); simp only [Act.put, List.setIfInBounds_toArray, List.set_cons_zero, List.set_cons_succ])
    | ((with_reducible apply loadN_ (n := 7)); (case HH => first | exact HA.out | exact HA.out.any rfl rfl rfl rfl); (case ht => rfl); (case hn => decide +kernel); (case hx => rfl); (case hw => rfl); (case hm => repeat (first | exact List.Mem.head _ | refine List.Mem.tail _ ?_)); (case hv => first | (simp only [List.drop_succ_cons, List.drop_zero, List.take_succ_cons, List.take_zero]; rfl) | rfl); (case hl => rfl); simp only [Act.put, List.setIfInBounds_toArray, List.set_cons_zero, List.set_cons_succ])
    | ((with_reducible apply box_); (case HH => first | exact HA.out | exact HA.out.any rfl rfl rfl rfl); (case hw => rfl); (case hev => conv => lhs; whnf); (case hy => rfl); intro bx w1 HB_; simp only [Act.put, List.setIfInBounds_toArray, List.set_cons_zero, List.set_cons_succ]; clear HA; have HA := Aside0.mk HB_; clear HB_)
    | ((with_reducible apply alloc_ (z := .agg #[.int .i64 0, .int .i64 0, .int .i64 0, .int .i64 0, .int .i64 0, .int .i64 0, .int .i64 0])); (case HH => first | exact HA.out | exact HA.out.any rfl rfl rfl rfl); (case hw => rfl); (case hz => kernel_rfl); (case hx => rfl); intro bx w1 HB_; simp only [Act.put, List.setIfInBounds_toArray, List.set_cons_zero, List.set_cons_succ]; clear HA; have HA := Aside0.mk HB_; clear HB_)
    | ((with_reducible apply store_); (case HH => first | exact HA.out | exact HA.out.any rfl rfl rfl rfl); (case hw => rfl); (case hx => rfl); (case hev => conv => lhs; whnf); (case hy => rfl); (case hm => repeat (first | exact Holds.At.here | apply Holds.At.there)); (case hl => rfl); (case hn => kernel_rfl); (case h1 => simp [Value.oneCell']); (case hi => simp); intro w1 HB_; simp only [splice, List.set_cons_zero, List.set_cons_succ] at HB_; clear HA; have HA := Aside0.mk HB_; clear HB_)
    | (go_at_call 30; (with_reducible refine (node_Kind.calls k kd ino nm bl _ HK.out).mono ?_); rintro e w1 ⟨rfl, hb_⟩; have HB_ := HA.out.call1 hb_ rfl rfl rfl rfl; clear hb_; clear HA; have HA := Aside0.mk HB_; clear HB_)
    | ((with_reducible apply conv_); (case HH => first | exact HA.out | exact HA.out.any rfl rfl rfl rfl); (case hw => rfl); (case hev => conv => lhs; whnf); (case hv => rfl); (case hs => exact Try.underlying9); (case hd => exact Try.underlying34); (case he => exact Try.underlying5); intro bs w1 obs capbs HB_ HSbs hcapbs; have HSbs := Aside0.mk HSbs; have hcapbs := Aside0.mk hcapbs; simp only [Act.put, List.setIfInBounds_toArray, List.set_cons_zero, List.set_cons_succ]; clear HA; have HA := Aside0.mk HB_; clear HB_)
    | (go_at_call 50; (with_reducible apply Calls.mono); (case h => go_loud (exact number_at (by first | exact HA.out | exact HA.out.any rfl rfl rfl rfl) (by repeat (first | exact Holds.At.here | apply Holds.At.there)) (by rw [bytesOf_length]; exact hv) hcapbs.out (by first | exact pos_le _ _ _ | exact Nat.zero_le _ | omega) (by decide) (HSbs.out.mono (by simp)) hby.out)); rintro e w1 ⟨rfl, HB_⟩; clear HA; have HA := Aside0.mk HB_; clear HB_)
    | (go_at_call 52; (with_reducible apply Calls.mono); (case h => exact done_calls _ _ _ _ (bytesOf v) w _ _ [] (by first | exact HA.out | exact HA.out.any rfl rfl rfl rfl) (by repeat (first | exact List.Mem.head _ | refine List.Mem.tail _ ?_))); rintro e w' ⟨rfl, ⟨nd, rfl⟩⟩))
  (apply end_list [.cell 2 52, .tmp 3]; (case hres => rfl); (case hd => rfl); (case hvs => apply vcell (by first | exact HA.out | exact HA.out.any rfl rfl rfl rfl); (case hp => rfl); (case hm => repeat (first | exact List.Mem.head _ | refine List.Mem.tail _ ?_)); (case hag => rfl); (case hi => kernel_rfl); (case hvs => apply Vals.tmp; exact .nil)); (case hl => simp); (case hR => exact ⟨rfl, HA.out.below⟩))
set_option maxHeartbeats 8000000 in
set_option maxRecDepth 100000 in
theorem parseInode_r (k v : ByteArray) (g : Bool) (kd ino bl : Int) (nm : ByteArray) (w : World) (hk : node_Kind.f k = some (kd, ino, nm, bl)) (hv : v.size ≤ 281474976710656) (f0 : g = false) (f1 : (kd == 1) = true) (f2 : (kd != 1) = false) (f3 : ((((pos (bytesOf v) (pos (bytesOf v) (pos (bytesOf v) (pos (bytesOf v) (pos (bytesOf v) (pos (bytesOf v) 0 1) 2) 2) 2) 2) 4) : Nat) : Int) == ((bytesOf v).length : Int)) = true) (f4 : rightInode (ino) (leVal (nxt (bytesOf v) 0 1)) (leVal (nxt (bytesOf v) (pos (bytesOf v) 0 1) 2)) (leVal (nxt (bytesOf v) (pos (bytesOf v) (pos (bytesOf v) 0 1) 2) 2)) (leVal (nxt (bytesOf v) (pos (bytesOf v) (pos (bytesOf v) (pos (bytesOf v) 0 1) 2) 2) 2)) (leVal (nxt (bytesOf v) (pos (bytesOf v) (pos (bytesOf v) (pos (bytesOf v) (pos (bytesOf v) 0 1) 2) 2) 2) 2)) (leVal (nxt (bytesOf v) (pos (bytesOf v) (pos (bytesOf v) (pos (bytesOf v) (pos (bytesOf v) (pos (bytesOf v) 0 1) 2) 2) 2) 2) 4)) = false) :
    Calls Try.prog 34 #[.agg #[.string k, .string v, .bool g]] w fun e w' => e = .returned (.tuple #[.agg #[.int .i64 (0), .int .i64 (0), .int .i64 (0), .int .i64 (0), .int .i64 (0), .int .i64 (0), .int .i64 (0)], .bool false]) ∧ Below w.heap.size w w' := by
  try subst f0
  have HK := Aside0.mk hk
  have hby : Aside0 (Bytes (bytesOf v)) := Aside0.mk (bytes_of v)
  have HA := Aside0.mk (Holds.start w)
  clear hk
  have HR := Aside0.mk (show node_right.f (ino) (leVal (nxt (bytesOf v) 0 1)) (leVal (nxt (bytesOf v) (pos (bytesOf v) 0 1) 2)) (leVal (nxt (bytesOf v) (pos (bytesOf v) (pos (bytesOf v) 0 1) 2) 2)) (leVal (nxt (bytesOf v) (pos (bytesOf v) (pos (bytesOf v) (pos (bytesOf v) 0 1) 2) 2) 2)) (leVal (nxt (bytesOf v) (pos (bytesOf v) (pos (bytesOf v) (pos (bytesOf v) (pos (bytesOf v) 0 1) 2) 2) 2) 2)) (leVal (nxt (bytesOf v) (pos (bytesOf v) (pos (bytesOf v) (pos (bytesOf v) (pos (bytesOf v) (pos (bytesOf v) 0 1) 2) 2) 2) 2) 4)) = some false by unfold node_right.f; rw [f4])
  go_enter Try.func34, Try.ntmps34
  go_wp2_with (first
    | ((with_reducible apply load1_); (case HH => first | exact HA.out | exact HA.out.any rfl rfl rfl rfl); (case ht => rfl); (case hx => rfl); (case hw => rfl); (case hm => repeat (first | exact List.Mem.head _ | refine List.Mem.tail _ ?_)); (case hv => exact rfl); simp only [Act.put, List.setIfInBounds_toArray, List.set_cons_zero, List.set_cons_succ])
    | ((with_reducible apply loadN_ (n := 7)); (case HH => first | exact HA.out | exact HA.out.any rfl rfl rfl rfl); (case ht => rfl); (case hn => decide +kernel); (case hx => rfl); (case hw => rfl); (case hm => repeat (first | exact List.Mem.head _ | refine List.Mem.tail _ ?_)); (case hv => first | (simp only [List.drop_succ_cons, List.drop_zero, List.take_succ_cons, List.take_zero]; rfl) | rfl); (case hl => rfl); simp only [Act.put, List.setIfInBounds_toArray, List.set_cons_zero, List.set_cons_succ])
    | ((with_reducible apply box_); (case HH => first | exact HA.out | exact HA.out.any rfl rfl rfl rfl); (case hw => rfl); (case hev => conv => lhs; whnf); (case hy => rfl); intro bx w1 HB_; simp only [Act.put, List.setIfInBounds_toArray, List.set_cons_zero, List.set_cons_succ]; clear HA; have HA := Aside0.mk HB_; clear HB_)
    | ((with_reducible apply alloc_ (z := .agg #[.int .i64 0, .int .i64 0, .int .i64 0, .int .i64 0, .int .i64 0, .int .i64 0, .int .i64 0])); (case HH => first | exact HA.out | exact HA.out.any rfl rfl rfl rfl); (case hw => rfl); (case hz => kernel_rfl); (case hx => rfl); intro bx w1 HB_; simp only [Act.put, List.setIfInBounds_toArray, List.set_cons_zero, List.set_cons_succ]; clear HA; have HA := Aside0.mk HB_; clear HB_)
    | ((with_reducible apply store_); (case HH => first | exact HA.out | exact HA.out.any rfl rfl rfl rfl); (case hw => rfl); (case hx => rfl); (case hev => conv => lhs; whnf); (case hy => rfl); (case hm => repeat (first | exact Holds.At.here | apply Holds.At.there)); (case hl => rfl); (case hn => kernel_rfl); (case h1 => simp [Value.oneCell']); (case hi => simp); intro w1 HB_; simp only [splice, List.set_cons_zero, List.set_cons_succ] at HB_; clear HA; have HA := Aside0.mk HB_; clear HB_)
    | (go_at_call 30; (with_reducible refine (node_Kind.calls k kd ino nm bl _ HK.out).mono ?_); rintro e w1 ⟨rfl, hb_⟩; have HB_ := HA.out.call1 hb_ rfl rfl rfl rfl; clear hb_; clear HA; have HA := Aside0.mk HB_; clear HB_)
    | ((with_reducible apply conv_); (case HH => first | exact HA.out | exact HA.out.any rfl rfl rfl rfl); (case hw => rfl); (case hev => conv => lhs; whnf); (case hv => rfl); (case hs => exact Try.underlying9); (case hd => exact Try.underlying34); (case he => exact Try.underlying5); intro bs w1 obs capbs HB_ HSbs hcapbs; have HSbs := Aside0.mk HSbs; have hcapbs := Aside0.mk hcapbs; simp only [Act.put, List.setIfInBounds_toArray, List.set_cons_zero, List.set_cons_succ]; clear HA; have HA := Aside0.mk HB_; clear HB_)
    | (go_at_call 50; (with_reducible apply Calls.mono); (case h => go_loud (exact number_at (by first | exact HA.out | exact HA.out.any rfl rfl rfl rfl) (by repeat (first | exact Holds.At.here | apply Holds.At.there)) (by rw [bytesOf_length]; exact hv) hcapbs.out (by first | exact pos_le _ _ _ | exact Nat.zero_le _ | omega) (by decide) (HSbs.out.mono (by simp)) hby.out)); rintro e w1 ⟨rfl, HB_⟩; clear HA; have HA := Aside0.mk HB_; clear HB_)
    | (go_at_call 52; (with_reducible apply Calls.mono); (case h => exact done_calls _ _ _ _ (bytesOf v) w _ _ [] (by first | exact HA.out | exact HA.out.any rfl rfl rfl rfl) (by repeat (first | exact List.Mem.head _ | refine List.Mem.tail _ ?_))); rintro e w' ⟨rfl, ⟨nd, rfl⟩⟩)
    | (go_at_call 59; (with_reducible refine (node_right.calls (ino) (leVal (nxt (bytesOf v) 0 1)) (leVal (nxt (bytesOf v) (pos (bytesOf v) 0 1) 2)) (leVal (nxt (bytesOf v) (pos (bytesOf v) (pos (bytesOf v) 0 1) 2) 2)) (leVal (nxt (bytesOf v) (pos (bytesOf v) (pos (bytesOf v) (pos (bytesOf v) 0 1) 2) 2) 2)) (leVal (nxt (bytesOf v) (pos (bytesOf v) (pos (bytesOf v) (pos (bytesOf v) (pos (bytesOf v) 0 1) 2) 2) 2) 2)) (leVal (nxt (bytesOf v) (pos (bytesOf v) (pos (bytesOf v) (pos (bytesOf v) (pos (bytesOf v) (pos (bytesOf v) 0 1) 2) 2) 2) 2) 4)) _ _ HR.out).mono ?_); rintro e w1 ⟨rfl, hb_⟩; have HB_ := HA.out.call1 hb_ rfl rfl rfl rfl; clear hb_; clear HA; have HA := Aside0.mk HB_; clear HB_))
  (apply end_list [.cell 2 52, .tmp 3]; (case hres => rfl); (case hd => rfl); (case hvs => apply vcell (by first | exact HA.out | exact HA.out.any rfl rfl rfl rfl); (case hp => rfl); (case hm => repeat (first | exact List.Mem.head _ | refine List.Mem.tail _ ?_)); (case hag => rfl); (case hi => kernel_rfl); (case hvs => apply Vals.tmp; exact .nil)); (case hl => simp); (case hR => exact ⟨rfl, HA.out.below⟩))
/-- What a node is read as_, as_ an inode. -/
def parseI (g : Bool) (kd ino : Int) (v : ByteArray) : Int × Int × Int × Int × Int × Int × Int × Bool :=
  if g = false ∧ kd = 1 ∧ (pos (bytesOf v) (pos (bytesOf v) (pos (bytesOf v) (pos (bytesOf v) (pos (bytesOf v) (pos (bytesOf v) 0 1) 2) 2) 2) 2) 4) = (bytesOf v).length ∧ rightInode (ino) (leVal (nxt (bytesOf v) 0 1)) (leVal (nxt (bytesOf v) (pos (bytesOf v) 0 1) 2)) (leVal (nxt (bytesOf v) (pos (bytesOf v) (pos (bytesOf v) 0 1) 2) 2)) (leVal (nxt (bytesOf v) (pos (bytesOf v) (pos (bytesOf v) (pos (bytesOf v) 0 1) 2) 2) 2)) (leVal (nxt (bytesOf v) (pos (bytesOf v) (pos (bytesOf v) (pos (bytesOf v) (pos (bytesOf v) 0 1) 2) 2) 2) 2)) (leVal (nxt (bytesOf v) (pos (bytesOf v) (pos (bytesOf v) (pos (bytesOf v) (pos (bytesOf v) (pos (bytesOf v) 0 1) 2) 2) 2) 2) 4)) = true then (ino, leVal (nxt (bytesOf v) 0 1), leVal (nxt (bytesOf v) (pos (bytesOf v) 0 1) 2), leVal (nxt (bytesOf v) (pos (bytesOf v) (pos (bytesOf v) 0 1) 2) 2), leVal (nxt (bytesOf v) (pos (bytesOf v) (pos (bytesOf v) (pos (bytesOf v) 0 1) 2) 2) 2), leVal (nxt (bytesOf v) (pos (bytesOf v) (pos (bytesOf v) (pos (bytesOf v) (pos (bytesOf v) 0 1) 2) 2) 2) 2), leVal (nxt (bytesOf v) (pos (bytesOf v) (pos (bytesOf v) (pos (bytesOf v) (pos (bytesOf v) (pos (bytesOf v) 0 1) 2) 2) 2) 2) 4), true) else (0, 0, 0, 0, 0, 0, 0, false)
def node_ParseInode.f (k v : ByteArray) (g : Bool) : Option (Int × Int × Int × Int × Int × Int × Int × Bool) :=
  (node_Kind.f k).bind fun t => if v.size ≤ 281474976710656 then some (parseI g t.1 t.2.1 v) else none
theorem node_ParseInode.calls (a0_0 : ByteArray) (a0_1 : ByteArray) (a0_2 : Bool) (r1 : Int) (r2 : Int) (r3 : Int) (r4 : Int) (r5 : Int) (r6 : Int) (r7 : Int) (r8 : Bool) (w : World) (h : node_ParseInode.f a0_0 a0_1 a0_2 = some (r1, r2, r3, r4, r5, r6, r7, r8)) :
    Calls Try.prog 34 #[.agg #[.string a0_0, .string a0_1, .bool a0_2]] w fun e w' => e = .returned (.tuple #[.agg #[.int .i64 r1, .int .i64 r2, .int .i64 r3, .int .i64 r4, .int .i64 r5, .int .i64 r6, .int .i64 r7], .bool r8]) ∧ Below w.heap.size w w' := by
  unfold node_ParseInode.f at h
  obtain ⟨⟨kd, ino, nm, bl⟩, hk, h⟩ := Option.bind_eq_some_iff.mp h
  by_cases hv : a0_1.size ≤ 281474976710656
  rotate_left
  · rw [if_neg hv] at h
    cases h
  rw [if_pos hv] at h
  replace h := Option.some.inj h
  unfold parseI at h
  have hB : ∀ (a b : Int), a = b → (a == b) = true ∧ (a != b) = false := fun a b h => by subst h; simp
  have hN : ∀ (a b : Int), ¬ a = b → (a == b) = false ∧ (a != b) = true := fun a b h => by simp [h]
  cases a0_2 with
  | true =>
    rw [if_neg (by simp)] at h
    simp only [Prod.mk.injEq] at h
    obtain ⟨rfl, rfl, rfl, rfl, rfl, rfl, rfl, rfl⟩ := h
    exact parseInode_g a0_0 a0_1 true kd ino bl nm w hk hv rfl
  | false =>
    by_cases h1 : kd = 1
    rotate_left
    · rw [if_neg (by simp [h1])] at h
      simp only [Prod.mk.injEq] at h
      obtain ⟨rfl, rfl, rfl, rfl, rfl, rfl, rfl, rfl⟩ := h
      exact parseInode_k a0_0 a0_1 false kd ino bl nm w hk hv rfl (hN _ _ h1).1 (hN _ _ h1).2
    by_cases h2 : (pos (bytesOf a0_1) (pos (bytesOf a0_1) (pos (bytesOf a0_1) (pos (bytesOf a0_1) (pos (bytesOf a0_1) (pos (bytesOf a0_1) 0 1) 2) 2) 2) 2) 4) = (bytesOf a0_1).length
    rotate_left
    · rw [if_neg (fun hh => h2 hh.2.2.1)] at h
      simp only [Prod.mk.injEq] at h
      obtain ⟨rfl, rfl, rfl, rfl, rfl, rfl, rfl, rfl⟩ := h
      exact parseInode_d a0_0 a0_1 false kd ino bl nm w hk hv rfl (hB _ _ h1).1 (hB _ _ h1).2 (hN _ _ (by omega)).1
    by_cases h3 : rightInode (ino) (leVal (nxt (bytesOf a0_1) 0 1)) (leVal (nxt (bytesOf a0_1) (pos (bytesOf a0_1) 0 1) 2)) (leVal (nxt (bytesOf a0_1) (pos (bytesOf a0_1) (pos (bytesOf a0_1) 0 1) 2) 2)) (leVal (nxt (bytesOf a0_1) (pos (bytesOf a0_1) (pos (bytesOf a0_1) (pos (bytesOf a0_1) 0 1) 2) 2) 2)) (leVal (nxt (bytesOf a0_1) (pos (bytesOf a0_1) (pos (bytesOf a0_1) (pos (bytesOf a0_1) (pos (bytesOf a0_1) 0 1) 2) 2) 2) 2)) (leVal (nxt (bytesOf a0_1) (pos (bytesOf a0_1) (pos (bytesOf a0_1) (pos (bytesOf a0_1) (pos (bytesOf a0_1) (pos (bytesOf a0_1) 0 1) 2) 2) 2) 2) 4)) = true
    · rw [if_pos ⟨rfl, h1, h2, h3⟩] at h
      simp only [Prod.mk.injEq] at h
      obtain ⟨rfl, rfl, rfl, rfl, rfl, rfl, rfl, rfl⟩ := h
      exact parseInode_ok a0_0 a0_1 false kd ino bl nm w hk hv rfl (hB _ _ h1).1 (hB _ _ h1).2 (hB _ _ (by omega)).1 h3
    · rw [if_neg (fun hh => h3 hh.2.2.2)] at h
      simp only [Prod.mk.injEq] at h
      obtain ⟨rfl, rfl, rfl, rfl, rfl, rfl, rfl, rfl⟩ := h
      exact parseInode_r a0_0 a0_1 false kd ino bl nm w hk hv rfl (hB _ _ h1).1 (hB _ _ h1).2 (hB _ _ (by omega)).1 (Bool.eq_false_iff.mpr h3)
end Go.Proofs.Ytakchpeohmkpkaa.Q

namespace Go.Proofs.Ytakchpeohmkpkaa.Q
open Go.RowKit Go.Proofs.YtakchpeohmkpkaaW.PrintWords Go.Proofs.YtakchpeohmkpkaaW.PrintLast Go.Proofs.YtakchpeohmkpkaaW.PrintMore Go.Proofs.Ytakchpeohmkpkaa.Sep
set_option linter.unusedVariables false
set_option linter.unusedSimpArgs false
def goodKindB (a : Int) : Bool := decide (1 ≤ a) && decide (a ≤ 3)
theorem goodk_calls (a : Int) (w : World) : Calls Try.prog 64 #[.int .i64 a] w fun e w' => e = .returned (.bool (goodKindB a)) ∧ Drawn0 w w' := by
  refine node_goodKind.calls a _ w ?_
  unfold node_goodKind.f goodKindB
  by_cases h : a ≥ 1 <;> simp [h] <;> omega
set_option maxHeartbeats 8000000 in
set_option maxRecDepth 100000 in
theorem parseEntry_ok (k v : ByteArray) (g : Bool) (kd dir bl : Int) (nm : ByteArray) (w : World) (hk : node_Kind.f k = some (kd, dir, nm, bl)) (hv : v.size ≤ 281474976710656) (f0 : g = false) (f1 : (kd == 2) = true) (f2 : (kd != 2) = false) (f3 : ((((pos (bytesOf v) (pos (bytesOf v) 0 2) 1) : Nat) : Int) == ((bytesOf v).length : Int)) = true) (f4 : goodInoB (leVal (nxt (bytesOf v) 0 2)) = true) (f5 : goodKindB (leVal (nxt (bytesOf v) (pos (bytesOf v) 0 2) 1)) = true) :
    Calls Try.prog 42 #[.agg #[.string k, .string v, .bool g]] w fun e w' => e = .returned (.tuple #[.int .i64 dir, .agg #[.string nm, .int .i64 (leVal (nxt (bytesOf v) 0 2)), .int .i64 (leVal (nxt (bytesOf v) (pos (bytesOf v) 0 2) 1))], .bool true]) ∧ Below w.heap.size w w' := by
  try subst f0
  have HK := Aside0.mk hk
  have hby : Aside0 (Bytes (bytesOf v)) := Aside0.mk (bytes_of v)
  have HA := Aside0.mk (Holds.start w)
  clear hk
  go_enter Try.func42, Try.ntmps42
  go_wp2_with (first
    | ((with_reducible apply load1_); (case HH => first | exact HA.out | exact HA.out.any rfl rfl rfl rfl); (case ht => rfl); (case hx => rfl); (case hw => rfl); (case hm => repeat (first | exact List.Mem.head _ | refine List.Mem.tail _ ?_)); (case hv => exact rfl); simp only [Act.put, List.setIfInBounds_toArray, List.set_cons_zero, List.set_cons_succ])
    | ((with_reducible apply loadN_ (n := 3)); (case HH => first | exact HA.out | exact HA.out.any rfl rfl rfl rfl); (case ht => rfl); (case hn => decide +kernel); (case hx => rfl); (case hw => rfl); (case hm => repeat (first | exact List.Mem.head _ | refine List.Mem.tail _ ?_)); (case hv => first | (simp only [List.drop_succ_cons, List.drop_zero, List.take_succ_cons, List.take_zero]; rfl) | rfl); (case hl => rfl); simp only [Act.put, List.setIfInBounds_toArray, List.set_cons_zero, List.set_cons_succ])
    | ((with_reducible apply box_); (case HH => first | exact HA.out | exact HA.out.any rfl rfl rfl rfl); (case hw => rfl); (case hev => conv => lhs; whnf); (case hy => rfl); intro bx w1 HB_; simp only [Act.put, List.setIfInBounds_toArray, List.set_cons_zero, List.set_cons_succ]; clear HA; have HA := Aside0.mk HB_; clear HB_)
    | ((with_reducible apply alloc_ (z := .agg #[.string ⟨#[]⟩, .int .i64 0, .int .i64 0])); (case HH => first | exact HA.out | exact HA.out.any rfl rfl rfl rfl); (case hw => rfl); (case hz => kernel_rfl); (case hx => rfl); intro bx w1 HB_; simp only [Act.put, List.setIfInBounds_toArray, List.set_cons_zero, List.set_cons_succ]; clear HA; have HA := Aside0.mk HB_; clear HB_)
    | ((with_reducible apply store_); (case HH => first | exact HA.out | exact HA.out.any rfl rfl rfl rfl); (case hw => rfl); (case hx => rfl); (case hev => conv => lhs; whnf); (case hy => rfl); (case hm => repeat (first | exact Holds.At.here | apply Holds.At.there)); (case hl => rfl); (case hn => kernel_rfl); (case h1 => simp [Value.oneCell']); (case hi => simp); intro w1 HB_; simp only [splice, List.set_cons_zero, List.set_cons_succ] at HB_; clear HA; have HA := Aside0.mk HB_; clear HB_)
    | (go_at_call 30; (with_reducible refine (node_Kind.calls k kd dir nm bl _ HK.out).mono ?_); rintro e w1 ⟨rfl, hb_⟩; have HB_ := HA.out.call1 hb_ rfl rfl rfl rfl; clear hb_; clear HA; have HA := Aside0.mk HB_; clear HB_)
    | ((with_reducible apply conv_); (case HH => first | exact HA.out | exact HA.out.any rfl rfl rfl rfl); (case hw => rfl); (case hev => conv => lhs; whnf); (case hv => rfl); (case hs => exact Try.underlying9); (case hd => exact Try.underlying34); (case he => exact Try.underlying5); intro bs w1 obs capbs HB_ HSbs hcapbs; have HSbs := Aside0.mk HSbs; have hcapbs := Aside0.mk hcapbs; simp only [Act.put, List.setIfInBounds_toArray, List.set_cons_zero, List.set_cons_succ]; clear HA; have HA := Aside0.mk HB_; clear HB_)
    | (go_at_call 50; (with_reducible apply Calls.mono); (case h => exact number_at (by first | exact HA.out | exact HA.out.any rfl rfl rfl rfl) (by repeat (first | exact Holds.At.here | apply Holds.At.there)) (by rw [bytesOf_length]; exact hv) hcapbs.out (by first | exact pos_le _ _ _ | exact Nat.zero_le _ | omega) (by decide) (HSbs.out.mono (by simp)) hby.out); rintro e w1 ⟨rfl, HB_⟩; clear HA; have HA := Aside0.mk HB_; clear HB_)
    | (go_at_call 52; (with_reducible apply Calls.mono); (case h => exact done_calls _ _ _ _ (bytesOf v) w _ _ [] (by first | exact HA.out | exact HA.out.any rfl rfl rfl rfl) (by repeat (first | exact List.Mem.head _ | refine List.Mem.tail _ ?_))); rintro e w' ⟨rfl, ⟨nd, rfl⟩⟩)
    | (go_at_call 56; (with_reducible refine (good_calls _ _).mono ?_); rintro e w' ⟨rfl, ⟨nd, rfl⟩⟩)
    | (go_at_call 64; (with_reducible refine (goodk_calls _ _).mono ?_); rintro e w' ⟨rfl, ⟨nd, rfl⟩⟩))
  refine start_H (by first | exact HA.out | exact HA.out.any rfl rfl rfl rfl) (n := 5) [3] #[false, false, false, false, false] (by kernel_rfl) rfl rfl ?_
  refine pure_ (i := 0) (N := some 55) (v := ?_) (a' := ?_) #[true, false, false, false, false] rfl rfl (by kernel_rfl) (fun _ _ _ h => h) (Or.inl ⟨by rfl, ?_⟩) ?_ ?_
  rotate_left
  · intro w'
    go_simp
    with_reducible rfl
  rotate_left
  · simp only [Act.put, List.setIfInBounds_toArray, List.set_cons_zero, List.set_cons_succ, i64_w, i32_w]
    rfl
  refine pure_ (i := 2) (N := some 2) (v := ?_) (a' := ?_) #[true, false, true, false, false] rfl rfl (by kernel_rfl) (fun _ _ _ h => h) (Or.inl ⟨by rfl, ?_⟩) ?_ ?_
  rotate_left
  · intro w'
    go_simp
    with_reducible rfl
  rotate_left
  · simp only [Act.put, List.setIfInBounds_toArray, List.set_cons_zero, List.set_cons_succ, i64_w, i32_w]
    rfl
  apply takeN_ (by first | exact HA.out | exact HA.out.any rfl rfl rfl rfl | exact (HA.out.any rfl rfl rfl rfl).tail | exact (HA.out.any rfl rfl rfl rfl).tail.tail | exact (HA.out.any rfl rfl rfl rfl).tail.tail.tail) (i := 1) (l' := #[true, true, true, false, false]) (N := some 56) (n := 3)
  case hi => rfl
  case hN => rfl
  case hc => kernel_rfl
  case hop => rfl
  case hx => rfl
  case hw => rfl
  case hm => repeat (first | exact List.Mem.head _ | refine List.Mem.tail _ ?_)
  case ht => rfl
  case hn => decide +kernel
  case hv => first | (simp only [List.drop_succ_cons, List.drop_zero, List.take_succ_cons, List.take_zero]; rfl) | rfl
  case hl => rfl
  case hQ => exact fun _ _ _ h => h
  case ha => (simp only [Act.put, List.setIfInBounds_toArray, List.set_cons_zero, List.set_cons_succ, i64_w, i32_w]; rfl)
  refine last_ (i := 3) (N := none) #[true, true, true, true, false] rfl rfl (by kernel_rfl) (by decide) (fun K hK => ?_)
  apply store_e; (case HH => first | exact HA.out | exact HA.out.any rfl rfl rfl rfl); (case hop => rfl); (case hN => rfl); (case hw => rfl); (case hx => rfl); (case hev => conv => lhs; whnf); (case hy => rfl); (case hm => repeat (first | exact Holds.At.here | apply Holds.At.there)); (case hl => rfl); (case hn => kernel_rfl); (case h1 => simp [Value.oneCell']); (case hi => simp); intro w1 HB_; simp only [splice, List.set_cons_zero, List.set_cons_succ] at HB_; clear HA; have HA := Aside0.mk HB_; clear HB_
  refine hK.out _ _ ?_
  clear hK K
  refine pure_ (i := 4) (N := some 4) (v := ?_) (a' := ?_) #[true, true, true, true, true] rfl rfl (by kernel_rfl) (fun _ _ _ h => h) (Or.inl ⟨by rfl, ?_⟩) ?_ ?_
  rotate_left
  · intro w'
    go_simp
    with_reducible rfl
  rotate_left
  · simp only [Act.put, List.setIfInBounds_toArray, List.set_cons_zero, List.set_cons_succ, i64_w, i32_w]
    rfl
  refine done_ (by kernel_rfl) ?_
  go_wp2
  (apply end_list [.tmp 2, .cell 3 59, .tmp 4]; (case hres => rfl); (case hd => rfl); (case hvs => apply Vals.tmp; apply vcell (by first | exact HA.out | exact HA.out.any rfl rfl rfl rfl); (case hp => rfl); (case hm => repeat (first | exact List.Mem.head _ | refine List.Mem.tail _ ?_)); (case hag => rfl); (case hi => kernel_rfl); (case hvs => apply Vals.tmp; exact .nil)); (case hl => simp); (case hR => exact ⟨rfl, HA.out.below⟩))
set_option maxHeartbeats 8000000 in
set_option maxRecDepth 100000 in
theorem parseEntry_g (k v : ByteArray) (g : Bool) (kd dir bl : Int) (nm : ByteArray) (w : World) (hk : node_Kind.f k = some (kd, dir, nm, bl)) (hv : v.size ≤ 281474976710656) (f0 : g = true) :
    Calls Try.prog 42 #[.agg #[.string k, .string v, .bool g]] w fun e w' => e = .returned (.tuple #[.int .i64 0, .agg #[.string ⟨#[]⟩, .int .i64 0, .int .i64 0], .bool false]) ∧ Below w.heap.size w w' := by
  try subst f0
  have HK := Aside0.mk hk
  have hby : Aside0 (Bytes (bytesOf v)) := Aside0.mk (bytes_of v)
  have HA := Aside0.mk (Holds.start w)
  clear hk
  go_enter Try.func42, Try.ntmps42
  go_wp2_with (first
    | ((with_reducible apply load1_); (case HH => first | exact HA.out | exact HA.out.any rfl rfl rfl rfl); (case ht => rfl); (case hx => rfl); (case hw => rfl); (case hm => repeat (first | exact List.Mem.head _ | refine List.Mem.tail _ ?_)); (case hv => exact rfl); simp only [Act.put, List.setIfInBounds_toArray, List.set_cons_zero, List.set_cons_succ])
    | ((with_reducible apply loadN_ (n := 3)); (case HH => first | exact HA.out | exact HA.out.any rfl rfl rfl rfl); (case ht => rfl); (case hn => decide +kernel); (case hx => rfl); (case hw => rfl); (case hm => repeat (first | exact List.Mem.head _ | refine List.Mem.tail _ ?_)); (case hv => first | (simp only [List.drop_succ_cons, List.drop_zero, List.take_succ_cons, List.take_zero]; rfl) | rfl); (case hl => rfl); simp only [Act.put, List.setIfInBounds_toArray, List.set_cons_zero, List.set_cons_succ])
    | ((with_reducible apply box_); (case HH => first | exact HA.out | exact HA.out.any rfl rfl rfl rfl); (case hw => rfl); (case hev => conv => lhs; whnf); (case hy => rfl); intro bx w1 HB_; simp only [Act.put, List.setIfInBounds_toArray, List.set_cons_zero, List.set_cons_succ]; clear HA; have HA := Aside0.mk HB_; clear HB_)
    | ((with_reducible apply alloc_ (z := .agg #[.string ⟨#[]⟩, .int .i64 0, .int .i64 0])); (case HH => first | exact HA.out | exact HA.out.any rfl rfl rfl rfl); (case hw => rfl); (case hz => kernel_rfl); (case hx => rfl); intro bx w1 HB_; simp only [Act.put, List.setIfInBounds_toArray, List.set_cons_zero, List.set_cons_succ]; clear HA; have HA := Aside0.mk HB_; clear HB_)
    | ((with_reducible apply store_); (case HH => first | exact HA.out | exact HA.out.any rfl rfl rfl rfl); (case hw => rfl); (case hx => rfl); (case hev => conv => lhs; whnf); (case hy => rfl); (case hm => repeat (first | exact Holds.At.here | apply Holds.At.there)); (case hl => rfl); (case hn => kernel_rfl); (case h1 => simp [Value.oneCell']); (case hi => simp); intro w1 HB_; simp only [splice, List.set_cons_zero, List.set_cons_succ] at HB_; clear HA; have HA := Aside0.mk HB_; clear HB_)
    | (go_at_call 30; (with_reducible refine (node_Kind.calls k kd dir nm bl _ HK.out).mono ?_); rintro e w1 ⟨rfl, hb_⟩; have HB_ := HA.out.call1 hb_ rfl rfl rfl rfl; clear hb_; clear HA; have HA := Aside0.mk HB_; clear HB_)
    | ((with_reducible apply conv_); (case HH => first | exact HA.out | exact HA.out.any rfl rfl rfl rfl); (case hw => rfl); (case hev => conv => lhs; whnf); (case hv => rfl); (case hs => exact Try.underlying9); (case hd => exact Try.underlying34); (case he => exact Try.underlying5); intro bs w1 obs capbs HB_ HSbs hcapbs; have HSbs := Aside0.mk HSbs; have hcapbs := Aside0.mk hcapbs; simp only [Act.put, List.setIfInBounds_toArray, List.set_cons_zero, List.set_cons_succ]; clear HA; have HA := Aside0.mk HB_; clear HB_)
    | (go_at_call 50; (with_reducible apply Calls.mono); (case h => exact number_at (by first | exact HA.out | exact HA.out.any rfl rfl rfl rfl) (by repeat (first | exact Holds.At.here | apply Holds.At.there)) (by rw [bytesOf_length]; exact hv) hcapbs.out (by first | exact pos_le _ _ _ | exact Nat.zero_le _ | omega) (by decide) (HSbs.out.mono (by simp)) hby.out); rintro e w1 ⟨rfl, HB_⟩; clear HA; have HA := Aside0.mk HB_; clear HB_)
    | (go_at_call 52; (with_reducible apply Calls.mono); (case h => exact done_calls _ _ _ _ (bytesOf v) w _ _ [] (by first | exact HA.out | exact HA.out.any rfl rfl rfl rfl) (by repeat (first | exact List.Mem.head _ | refine List.Mem.tail _ ?_))); rintro e w' ⟨rfl, ⟨nd, rfl⟩⟩)
    | (go_at_call 56; (with_reducible refine (good_calls _ _).mono ?_); rintro e w' ⟨rfl, ⟨nd, rfl⟩⟩)
    | (go_at_call 64; (with_reducible refine (goodk_calls _ _).mono ?_); rintro e w' ⟨rfl, ⟨nd, rfl⟩⟩))
  (apply end_list [.tmp 2, .cell 3 59, .tmp 4]; (case hres => rfl); (case hd => rfl); (case hvs => apply Vals.tmp; apply vcell (by first | exact HA.out | exact HA.out.any rfl rfl rfl rfl); (case hp => rfl); (case hm => repeat (first | exact List.Mem.head _ | refine List.Mem.tail _ ?_)); (case hag => rfl); (case hi => kernel_rfl); (case hvs => apply Vals.tmp; exact .nil)); (case hl => simp); (case hR => exact ⟨rfl, HA.out.below⟩))
set_option maxHeartbeats 8000000 in
set_option maxRecDepth 100000 in
theorem parseEntry_k (k v : ByteArray) (g : Bool) (kd dir bl : Int) (nm : ByteArray) (w : World) (hk : node_Kind.f k = some (kd, dir, nm, bl)) (hv : v.size ≤ 281474976710656) (f0 : g = false) (f1 : (kd == 2) = false) (f2 : (kd != 2) = true) :
    Calls Try.prog 42 #[.agg #[.string k, .string v, .bool g]] w fun e w' => e = .returned (.tuple #[.int .i64 0, .agg #[.string ⟨#[]⟩, .int .i64 0, .int .i64 0], .bool false]) ∧ Below w.heap.size w w' := by
  try subst f0
  have HK := Aside0.mk hk
  have hby : Aside0 (Bytes (bytesOf v)) := Aside0.mk (bytes_of v)
  have HA := Aside0.mk (Holds.start w)
  clear hk
  go_enter Try.func42, Try.ntmps42
  go_wp2_with (first
    | ((with_reducible apply load1_); (case HH => first | exact HA.out | exact HA.out.any rfl rfl rfl rfl); (case ht => rfl); (case hx => rfl); (case hw => rfl); (case hm => repeat (first | exact List.Mem.head _ | refine List.Mem.tail _ ?_)); (case hv => exact rfl); simp only [Act.put, List.setIfInBounds_toArray, List.set_cons_zero, List.set_cons_succ])
    | ((with_reducible apply loadN_ (n := 3)); (case HH => first | exact HA.out | exact HA.out.any rfl rfl rfl rfl); (case ht => rfl); (case hn => decide +kernel); (case hx => rfl); (case hw => rfl); (case hm => repeat (first | exact List.Mem.head _ | refine List.Mem.tail _ ?_)); (case hv => first | (simp only [List.drop_succ_cons, List.drop_zero, List.take_succ_cons, List.take_zero]; rfl) | rfl); (case hl => rfl); simp only [Act.put, List.setIfInBounds_toArray, List.set_cons_zero, List.set_cons_succ])
    | ((with_reducible apply box_); (case HH => first | exact HA.out | exact HA.out.any rfl rfl rfl rfl); (case hw => rfl); (case hev => conv => lhs; whnf); (case hy => rfl); intro bx w1 HB_; simp only [Act.put, List.setIfInBounds_toArray, List.set_cons_zero, List.set_cons_succ]; clear HA; have HA := Aside0.mk HB_; clear HB_)
    | ((with_reducible apply alloc_ (z := .agg #[.string ⟨#[]⟩, .int .i64 0, .int .i64 0])); (case HH => first | exact HA.out | exact HA.out.any rfl rfl rfl rfl); (case hw => rfl); (case hz => kernel_rfl); (case hx => rfl); intro bx w1 HB_; simp only [Act.put, List.setIfInBounds_toArray, List.set_cons_zero, List.set_cons_succ]; clear HA; have HA := Aside0.mk HB_; clear HB_)
    | ((with_reducible apply store_); (case HH => first | exact HA.out | exact HA.out.any rfl rfl rfl rfl); (case hw => rfl); (case hx => rfl); (case hev => conv => lhs; whnf); (case hy => rfl); (case hm => repeat (first | exact Holds.At.here | apply Holds.At.there)); (case hl => rfl); (case hn => kernel_rfl); (case h1 => simp [Value.oneCell']); (case hi => simp); intro w1 HB_; simp only [splice, List.set_cons_zero, List.set_cons_succ] at HB_; clear HA; have HA := Aside0.mk HB_; clear HB_)
    | (go_at_call 30; (with_reducible refine (node_Kind.calls k kd dir nm bl _ HK.out).mono ?_); rintro e w1 ⟨rfl, hb_⟩; have HB_ := HA.out.call1 hb_ rfl rfl rfl rfl; clear hb_; clear HA; have HA := Aside0.mk HB_; clear HB_)
    | ((with_reducible apply conv_); (case HH => first | exact HA.out | exact HA.out.any rfl rfl rfl rfl); (case hw => rfl); (case hev => conv => lhs; whnf); (case hv => rfl); (case hs => exact Try.underlying9); (case hd => exact Try.underlying34); (case he => exact Try.underlying5); intro bs w1 obs capbs HB_ HSbs hcapbs; have HSbs := Aside0.mk HSbs; have hcapbs := Aside0.mk hcapbs; simp only [Act.put, List.setIfInBounds_toArray, List.set_cons_zero, List.set_cons_succ]; clear HA; have HA := Aside0.mk HB_; clear HB_)
    | (go_at_call 50; (with_reducible apply Calls.mono); (case h => exact number_at (by first | exact HA.out | exact HA.out.any rfl rfl rfl rfl) (by repeat (first | exact Holds.At.here | apply Holds.At.there)) (by rw [bytesOf_length]; exact hv) hcapbs.out (by first | exact pos_le _ _ _ | exact Nat.zero_le _ | omega) (by decide) (HSbs.out.mono (by simp)) hby.out); rintro e w1 ⟨rfl, HB_⟩; clear HA; have HA := Aside0.mk HB_; clear HB_)
    | (go_at_call 52; (with_reducible apply Calls.mono); (case h => exact done_calls _ _ _ _ (bytesOf v) w _ _ [] (by first | exact HA.out | exact HA.out.any rfl rfl rfl rfl) (by repeat (first | exact List.Mem.head _ | refine List.Mem.tail _ ?_))); rintro e w' ⟨rfl, ⟨nd, rfl⟩⟩)
    | (go_at_call 56; (with_reducible refine (good_calls _ _).mono ?_); rintro e w' ⟨rfl, ⟨nd, rfl⟩⟩)
    | (go_at_call 64; (with_reducible refine (goodk_calls _ _).mono ?_); rintro e w' ⟨rfl, ⟨nd, rfl⟩⟩))
  (apply end_list [.tmp 2, .cell 3 59, .tmp 4]; (case hres => rfl); (case hd => rfl); (case hvs => apply Vals.tmp; apply vcell (by first | exact HA.out | exact HA.out.any rfl rfl rfl rfl); (case hp => rfl); (case hm => repeat (first | exact List.Mem.head _ | refine List.Mem.tail _ ?_)); (case hag => rfl); (case hi => kernel_rfl); (case hvs => apply Vals.tmp; exact .nil)); (case hl => simp); (case hR => exact ⟨rfl, HA.out.below⟩))
set_option maxHeartbeats 8000000 in
set_option maxRecDepth 100000 in
theorem parseEntry_d (k v : ByteArray) (g : Bool) (kd dir bl : Int) (nm : ByteArray) (w : World) (hk : node_Kind.f k = some (kd, dir, nm, bl)) (hv : v.size ≤ 281474976710656) (f0 : g = false) (f1 : (kd == 2) = true) (f2 : (kd != 2) = false) (f3 : ((((pos (bytesOf v) (pos (bytesOf v) 0 2) 1) : Nat) : Int) == ((bytesOf v).length : Int)) = false) :
    Calls Try.prog 42 #[.agg #[.string k, .string v, .bool g]] w fun e w' => e = .returned (.tuple #[.int .i64 0, .agg #[.string ⟨#[]⟩, .int .i64 0, .int .i64 0], .bool false]) ∧ Below w.heap.size w w' := by
  try subst f0
  have HK := Aside0.mk hk
  have hby : Aside0 (Bytes (bytesOf v)) := Aside0.mk (bytes_of v)
  have HA := Aside0.mk (Holds.start w)
  clear hk
  go_enter Try.func42, Try.ntmps42
  go_wp2_with (first
    | ((with_reducible apply load1_); (case HH => first | exact HA.out | exact HA.out.any rfl rfl rfl rfl); (case ht => rfl); (case hx => rfl); (case hw => rfl); (case hm => repeat (first | exact List.Mem.head _ | refine List.Mem.tail _ ?_)); (case hv => exact rfl); simp only [Act.put, List.setIfInBounds_toArray, List.set_cons_zero, List.set_cons_succ])
    | ((with_reducible apply loadN_ (n := 3)); (case HH => first | exact HA.out | exact HA.out.any rfl rfl rfl rfl); (case ht => rfl); (case hn => decide +kernel); (case hx => rfl); (case hw => rfl); (case hm => repeat (first | exact List.Mem.head _ | refine List.Mem.tail _ ?_)); (case hv => first | (simp only [List.drop_succ_cons, List.drop_zero, List.take_succ_cons, List.take_zero]; rfl) | rfl); (case hl => rfl); simp only [Act.put, List.setIfInBounds_toArray, List.set_cons_zero, List.set_cons_succ])
    | ((with_reducible apply box_); (case HH => first | exact HA.out | exact HA.out.any rfl rfl rfl rfl); (case hw => rfl); (case hev => conv => lhs; whnf); (case hy => rfl); intro bx w1 HB_; simp only [Act.put, List.setIfInBounds_toArray, List.set_cons_zero, List.set_cons_succ]; clear HA; have HA := Aside0.mk HB_; clear HB_)
    | ((with_reducible apply alloc_ (z := .agg #[.string ⟨#[]⟩, .int .i64 0, .int .i64 0])); (case HH => first | exact HA.out | exact HA.out.any rfl rfl rfl rfl); (case hw => rfl); (case hz => kernel_rfl); (case hx => rfl); intro bx w1 HB_; simp only [Act.put, List.setIfInBounds_toArray, List.set_cons_zero, List.set_cons_succ]; clear HA; have HA := Aside0.mk HB_; clear HB_)
    | ((with_reducible apply store_); (case HH => first | exact HA.out | exact HA.out.any rfl rfl rfl rfl); (case hw => rfl); (case hx => rfl); (case hev => conv => lhs; whnf); (case hy => rfl); (case hm => repeat (first | exact Holds.At.here | apply Holds.At.there)); (case hl => rfl); (case hn => kernel_rfl); (case h1 => simp [Value.oneCell']); (case hi => simp); intro w1 HB_; simp only [splice, List.set_cons_zero, List.set_cons_succ] at HB_; clear HA; have HA := Aside0.mk HB_; clear HB_)
    | (go_at_call 30; (with_reducible refine (node_Kind.calls k kd dir nm bl _ HK.out).mono ?_); rintro e w1 ⟨rfl, hb_⟩; have HB_ := HA.out.call1 hb_ rfl rfl rfl rfl; clear hb_; clear HA; have HA := Aside0.mk HB_; clear HB_)
    | ((with_reducible apply conv_); (case HH => first | exact HA.out | exact HA.out.any rfl rfl rfl rfl); (case hw => rfl); (case hev => conv => lhs; whnf); (case hv => rfl); (case hs => exact Try.underlying9); (case hd => exact Try.underlying34); (case he => exact Try.underlying5); intro bs w1 obs capbs HB_ HSbs hcapbs; have HSbs := Aside0.mk HSbs; have hcapbs := Aside0.mk hcapbs; simp only [Act.put, List.setIfInBounds_toArray, List.set_cons_zero, List.set_cons_succ]; clear HA; have HA := Aside0.mk HB_; clear HB_)
    | (go_at_call 50; (with_reducible apply Calls.mono); (case h => exact number_at (by first | exact HA.out | exact HA.out.any rfl rfl rfl rfl) (by repeat (first | exact Holds.At.here | apply Holds.At.there)) (by rw [bytesOf_length]; exact hv) hcapbs.out (by first | exact pos_le _ _ _ | exact Nat.zero_le _ | omega) (by decide) (HSbs.out.mono (by simp)) hby.out); rintro e w1 ⟨rfl, HB_⟩; clear HA; have HA := Aside0.mk HB_; clear HB_)
    | (go_at_call 52; (with_reducible apply Calls.mono); (case h => exact done_calls _ _ _ _ (bytesOf v) w _ _ [] (by first | exact HA.out | exact HA.out.any rfl rfl rfl rfl) (by repeat (first | exact List.Mem.head _ | refine List.Mem.tail _ ?_))); rintro e w' ⟨rfl, ⟨nd, rfl⟩⟩)
    | (go_at_call 56; (with_reducible refine (good_calls _ _).mono ?_); rintro e w' ⟨rfl, ⟨nd, rfl⟩⟩)
    | (go_at_call 64; (with_reducible refine (goodk_calls _ _).mono ?_); rintro e w' ⟨rfl, ⟨nd, rfl⟩⟩))
  (apply end_list [.tmp 2, .cell 3 59, .tmp 4]; (case hres => rfl); (case hd => rfl); (case hvs => apply Vals.tmp; apply vcell (by first | exact HA.out | exact HA.out.any rfl rfl rfl rfl); (case hp => rfl); (case hm => repeat (first | exact List.Mem.head _ | refine List.Mem.tail _ ?_)); (case hag => rfl); (case hi => kernel_rfl); (case hvs => apply Vals.tmp; exact .nil)); (case hl => simp); (case hR => exact ⟨rfl, HA.out.below⟩))
set_option maxHeartbeats 8000000 in
set_option maxRecDepth 100000 in
theorem parseEntry_i (k v : ByteArray) (g : Bool) (kd dir bl : Int) (nm : ByteArray) (w : World) (hk : node_Kind.f k = some (kd, dir, nm, bl)) (hv : v.size ≤ 281474976710656) (f0 : g = false) (f1 : (kd == 2) = true) (f2 : (kd != 2) = false) (f3 : ((((pos (bytesOf v) (pos (bytesOf v) 0 2) 1) : Nat) : Int) == ((bytesOf v).length : Int)) = true) (f4 : goodInoB (leVal (nxt (bytesOf v) 0 2)) = false) :
    Calls Try.prog 42 #[.agg #[.string k, .string v, .bool g]] w fun e w' => e = .returned (.tuple #[.int .i64 0, .agg #[.string ⟨#[]⟩, .int .i64 0, .int .i64 0], .bool false]) ∧ Below w.heap.size w w' := by
  try subst f0
  have HK := Aside0.mk hk
  have hby : Aside0 (Bytes (bytesOf v)) := Aside0.mk (bytes_of v)
  have HA := Aside0.mk (Holds.start w)
  clear hk
  go_enter Try.func42, Try.ntmps42
  go_wp2_with (first
    | ((with_reducible apply load1_); (case HH => first | exact HA.out | exact HA.out.any rfl rfl rfl rfl); (case ht => rfl); (case hx => rfl); (case hw => rfl); (case hm => repeat (first | exact List.Mem.head _ | refine List.Mem.tail _ ?_)); (case hv => exact rfl); simp only [Act.put, List.setIfInBounds_toArray, List.set_cons_zero, List.set_cons_succ])
    | ((with_reducible apply loadN_ (n := 3)); (case HH => first | exact HA.out | exact HA.out.any rfl rfl rfl rfl); (case ht => rfl); (case hn => decide +kernel); (case hx => rfl); (case hw => rfl); (case hm => repeat (first | exact List.Mem.head _ | refine List.Mem.tail _ ?_)); (case hv => first | (simp only [List.drop_succ_cons, List.drop_zero, List.take_succ_cons, List.take_zero]; rfl) | rfl); (case hl => rfl); simp only [Act.put, List.setIfInBounds_toArray, List.set_cons_zero, List.set_cons_succ])
    | ((with_reducible apply box_); (case HH => first | exact HA.out | exact HA.out.any rfl rfl rfl rfl); (case hw => rfl); (case hev => conv => lhs; whnf); (case hy => rfl); intro bx w1 HB_; simp only [Act.put, List.setIfInBounds_toArray, List.set_cons_zero, List.set_cons_succ]; clear HA; have HA := Aside0.mk HB_; clear HB_)
    | ((with_reducible apply alloc_ (z := .agg #[.string ⟨#[]⟩, .int .i64 0, .int .i64 0])); (case HH => first | exact HA.out | exact HA.out.any rfl rfl rfl rfl); (case hw => rfl); (case hz => kernel_rfl); (case hx => rfl); intro bx w1 HB_; simp only [Act.put, List.setIfInBounds_toArray, List.set_cons_zero, List.set_cons_succ]; clear HA; have HA := Aside0.mk HB_; clear HB_)
    | ((with_reducible apply store_); (case HH => first | exact HA.out | exact HA.out.any rfl rfl rfl rfl); (case hw => rfl); (case hx => rfl); (case hev => conv => lhs; whnf); (case hy => rfl); (case hm => repeat (first | exact Holds.At.here | apply Holds.At.there)); (case hl => rfl); (case hn => kernel_rfl); (case h1 => simp [Value.oneCell']); (case hi => simp); intro w1 HB_; simp only [splice, List.set_cons_zero, List.set_cons_succ] at HB_; clear HA; have HA := Aside0.mk HB_; clear HB_)
    | (go_at_call 30; (with_reducible refine (node_Kind.calls k kd dir nm bl _ HK.out).mono ?_); rintro e w1 ⟨rfl, hb_⟩; have HB_ := HA.out.call1 hb_ rfl rfl rfl rfl; clear hb_; clear HA; have HA := Aside0.mk HB_; clear HB_)
    | ((with_reducible apply conv_); (case HH => first | exact HA.out | exact HA.out.any rfl rfl rfl rfl); (case hw => rfl); (case hev => conv => lhs; whnf); (case hv => rfl); (case hs => exact Try.underlying9); (case hd => exact Try.underlying34); (case he => exact Try.underlying5); intro bs w1 obs capbs HB_ HSbs hcapbs; have HSbs := Aside0.mk HSbs; have hcapbs := Aside0.mk hcapbs; simp only [Act.put, List.setIfInBounds_toArray, List.set_cons_zero, List.set_cons_succ]; clear HA; have HA := Aside0.mk HB_; clear HB_)
    | (go_at_call 50; (with_reducible apply Calls.mono); (case h => exact number_at (by first | exact HA.out | exact HA.out.any rfl rfl rfl rfl) (by repeat (first | exact Holds.At.here | apply Holds.At.there)) (by rw [bytesOf_length]; exact hv) hcapbs.out (by first | exact pos_le _ _ _ | exact Nat.zero_le _ | omega) (by decide) (HSbs.out.mono (by simp)) hby.out); rintro e w1 ⟨rfl, HB_⟩; clear HA; have HA := Aside0.mk HB_; clear HB_)
    | (go_at_call 52; (with_reducible apply Calls.mono); (case h => exact done_calls _ _ _ _ (bytesOf v) w _ _ [] (by first | exact HA.out | exact HA.out.any rfl rfl rfl rfl) (by repeat (first | exact List.Mem.head _ | refine List.Mem.tail _ ?_))); rintro e w' ⟨rfl, ⟨nd, rfl⟩⟩)
    | (go_at_call 56; (with_reducible refine (good_calls _ _).mono ?_); rintro e w' ⟨rfl, ⟨nd, rfl⟩⟩)
    | (go_at_call 64; (with_reducible refine (goodk_calls _ _).mono ?_); rintro e w' ⟨rfl, ⟨nd, rfl⟩⟩))
  (apply end_list [.tmp 2, .cell 3 59, .tmp 4]; (case hres => rfl); (case hd => rfl); (case hvs => apply Vals.tmp; apply vcell (by first | exact HA.out | exact HA.out.any rfl rfl rfl rfl); (case hp => rfl); (case hm => repeat (first | exact List.Mem.head _ | refine List.Mem.tail _ ?_)); (case hag => rfl); (case hi => kernel_rfl); (case hvs => apply Vals.tmp; exact .nil)); (case hl => simp); (case hR => exact ⟨rfl, HA.out.below⟩))
set_option maxHeartbeats 8000000 in
set_option maxRecDepth 100000 in
theorem parseEntry_t (k v : ByteArray) (g : Bool) (kd dir bl : Int) (nm : ByteArray) (w : World) (hk : node_Kind.f k = some (kd, dir, nm, bl)) (hv : v.size ≤ 281474976710656) (f0 : g = false) (f1 : (kd == 2) = true) (f2 : (kd != 2) = false) (f3 : ((((pos (bytesOf v) (pos (bytesOf v) 0 2) 1) : Nat) : Int) == ((bytesOf v).length : Int)) = true) (f4 : goodInoB (leVal (nxt (bytesOf v) 0 2)) = true) (f5 : goodKindB (leVal (nxt (bytesOf v) (pos (bytesOf v) 0 2) 1)) = false) :
    Calls Try.prog 42 #[.agg #[.string k, .string v, .bool g]] w fun e w' => e = .returned (.tuple #[.int .i64 0, .agg #[.string ⟨#[]⟩, .int .i64 0, .int .i64 0], .bool false]) ∧ Below w.heap.size w w' := by
  try subst f0
  have HK := Aside0.mk hk
  have hby : Aside0 (Bytes (bytesOf v)) := Aside0.mk (bytes_of v)
  have HA := Aside0.mk (Holds.start w)
  clear hk
  go_enter Try.func42, Try.ntmps42
  go_wp2_with (first
    | ((with_reducible apply load1_); (case HH => first | exact HA.out | exact HA.out.any rfl rfl rfl rfl); (case ht => rfl); (case hx => rfl); (case hw => rfl); (case hm => repeat (first | exact List.Mem.head _ | refine List.Mem.tail _ ?_)); (case hv => exact rfl); simp only [Act.put, List.setIfInBounds_toArray, List.set_cons_zero, List.set_cons_succ])
    | ((with_reducible apply loadN_ (n := 3)); (case HH => first | exact HA.out | exact HA.out.any rfl rfl rfl rfl); (case ht => rfl); (case hn => decide +kernel); (case hx => rfl); (case hw => rfl); (case hm => repeat (first | exact List.Mem.head _ | refine List.Mem.tail _ ?_)); (case hv => first | (simp only [List.drop_succ_cons, List.drop_zero, List.take_succ_cons, List.take_zero]; rfl) | rfl); (case hl => rfl); simp only [Act.put, List.setIfInBounds_toArray, List.set_cons_zero, List.set_cons_succ])
    | ((with_reducible apply box_); (case HH => first | exact HA.out | exact HA.out.any rfl rfl rfl rfl); (case hw => rfl); (case hev => conv => lhs; whnf); (case hy => rfl); intro bx w1 HB_; simp only [Act.put, List.setIfInBounds_toArray, List.set_cons_zero, List.set_cons_succ]; clear HA; have HA := Aside0.mk HB_; clear HB_)
    | ((with_reducible apply alloc_ (z := .agg #[.string ⟨#[]⟩, .int .i64 0, .int .i64 0])); (case HH => first | exact HA.out | exact HA.out.any rfl rfl rfl rfl); (case hw => rfl); (case hz => kernel_rfl); (case hx => rfl); intro bx w1 HB_; simp only [Act.put, List.setIfInBounds_toArray, List.set_cons_zero, List.set_cons_succ]; clear HA; have HA := Aside0.mk HB_; clear HB_)
    | ((with_reducible apply store_); (case HH => first | exact HA.out | exact HA.out.any rfl rfl rfl rfl); (case hw => rfl); (case hx => rfl); (case hev => conv => lhs; whnf); (case hy => rfl); (case hm => repeat (first | exact Holds.At.here | apply Holds.At.there)); (case hl => rfl); (case hn => kernel_rfl); (case h1 => simp [Value.oneCell']); (case hi => simp); intro w1 HB_; simp only [splice, List.set_cons_zero, List.set_cons_succ] at HB_; clear HA; have HA := Aside0.mk HB_; clear HB_)
    | (go_at_call 30; (with_reducible refine (node_Kind.calls k kd dir nm bl _ HK.out).mono ?_); rintro e w1 ⟨rfl, hb_⟩; have HB_ := HA.out.call1 hb_ rfl rfl rfl rfl; clear hb_; clear HA; have HA := Aside0.mk HB_; clear HB_)
    | ((with_reducible apply conv_); (case HH => first | exact HA.out | exact HA.out.any rfl rfl rfl rfl); (case hw => rfl); (case hev => conv => lhs; whnf); (case hv => rfl); (case hs => exact Try.underlying9); (case hd => exact Try.underlying34); (case he => exact Try.underlying5); intro bs w1 obs capbs HB_ HSbs hcapbs; have HSbs := Aside0.mk HSbs; have hcapbs := Aside0.mk hcapbs; simp only [Act.put, List.setIfInBounds_toArray, List.set_cons_zero, List.set_cons_succ]; clear HA; have HA := Aside0.mk HB_; clear HB_)
    | (go_at_call 50; (with_reducible apply Calls.mono); (case h => exact number_at (by first | exact HA.out | exact HA.out.any rfl rfl rfl rfl) (by repeat (first | exact Holds.At.here | apply Holds.At.there)) (by rw [bytesOf_length]; exact hv) hcapbs.out (by first | exact pos_le _ _ _ | exact Nat.zero_le _ | omega) (by decide) (HSbs.out.mono (by simp)) hby.out); rintro e w1 ⟨rfl, HB_⟩; clear HA; have HA := Aside0.mk HB_; clear HB_)
    | (go_at_call 52; (with_reducible apply Calls.mono); (case h => exact done_calls _ _ _ _ (bytesOf v) w _ _ [] (by first | exact HA.out | exact HA.out.any rfl rfl rfl rfl) (by repeat (first | exact List.Mem.head _ | refine List.Mem.tail _ ?_))); rintro e w' ⟨rfl, ⟨nd, rfl⟩⟩)
    | (go_at_call 56; (with_reducible refine (good_calls _ _).mono ?_); rintro e w' ⟨rfl, ⟨nd, rfl⟩⟩)
    | (go_at_call 64; (with_reducible refine (goodk_calls _ _).mono ?_); rintro e w' ⟨rfl, ⟨nd, rfl⟩⟩))
  (apply end_list [.tmp 2, .cell 3 59, .tmp 4]; (case hres => rfl); (case hd => rfl); (case hvs => apply Vals.tmp; apply vcell (by first | exact HA.out | exact HA.out.any rfl rfl rfl rfl); (case hp => rfl); (case hm => repeat (first | exact List.Mem.head _ | refine List.Mem.tail _ ?_)); (case hag => rfl); (case hi => kernel_rfl); (case hvs => apply Vals.tmp; exact .nil)); (case hl => simp); (case hR => exact ⟨rfl, HA.out.below⟩))
/-- What a node is read as_, as_ an entry. -/
def parseE (g : Bool) (kd dir : Int) (nm v : ByteArray) : Int × ByteArray × Int × Int × Bool :=
  if g = false ∧ kd = 2 ∧ (pos (bytesOf v) (pos (bytesOf v) 0 2) 1) = (bytesOf v).length ∧ goodInoB (leVal (nxt (bytesOf v) 0 2)) = true ∧ goodKindB (leVal (nxt (bytesOf v) (pos (bytesOf v) 0 2) 1)) = true then (dir, nm, leVal (nxt (bytesOf v) 0 2), leVal (nxt (bytesOf v) (pos (bytesOf v) 0 2) 1), true) else (0, ⟨#[]⟩, 0, 0, false)
def node_ParseEntry.f (k v : ByteArray) (g : Bool) : Option (Int × ByteArray × Int × Int × Bool) :=
  (node_Kind.f k).bind fun t => if v.size ≤ 281474976710656 then some (parseE g t.1 t.2.1 t.2.2.1 v) else none
theorem node_ParseEntry.calls (a0_0 : ByteArray) (a0_1 : ByteArray) (a0_2 : Bool) (r1 : Int) (r2 : ByteArray) (r3 : Int) (r4 : Int) (r5 : Bool) (w : World) (h : node_ParseEntry.f a0_0 a0_1 a0_2 = some (r1, r2, r3, r4, r5)) :
    Calls Try.prog 42 #[.agg #[.string a0_0, .string a0_1, .bool a0_2]] w fun e w' => e = .returned (.tuple #[.int .i64 r1, .agg #[.string r2, .int .i64 r3, .int .i64 r4], .bool r5]) ∧ Below w.heap.size w w' := by
  unfold node_ParseEntry.f at h
  obtain ⟨⟨kd, dir, nm, bl⟩, hk, h⟩ := Option.bind_eq_some_iff.mp h
  by_cases hv : a0_1.size ≤ 281474976710656
  rotate_left
  · rw [if_neg hv] at h
    cases h
  rw [if_pos hv] at h
  replace h := Option.some.inj h
  unfold parseE at h
  have hB : ∀ (a b : Int), a = b → (a == b) = true ∧ (a != b) = false := fun a b h => by subst h; simp
  have hN : ∀ (a b : Int), ¬ a = b → (a == b) = false ∧ (a != b) = true := fun a b h => by simp [h]
  cases a0_2 with
  | true =>
    rw [if_neg (by simp)] at h
    simp only [Prod.mk.injEq] at h
    obtain ⟨rfl, rfl, rfl, rfl, rfl⟩ := h
    exact parseEntry_g a0_0 a0_1 true kd dir bl nm w hk hv rfl
  | false =>
    by_cases h1 : kd = 2
    rotate_left
    · rw [if_neg (by simp [h1])] at h
      simp only [Prod.mk.injEq] at h
      obtain ⟨rfl, rfl, rfl, rfl, rfl⟩ := h
      exact parseEntry_k a0_0 a0_1 false kd dir bl nm w hk hv rfl (hN _ _ h1).1 (hN _ _ h1).2
    by_cases h2 : (pos (bytesOf a0_1) (pos (bytesOf a0_1) 0 2) 1) = (bytesOf a0_1).length
    rotate_left
    · rw [if_neg (fun hh => h2 hh.2.2.1)] at h
      simp only [Prod.mk.injEq] at h
      obtain ⟨rfl, rfl, rfl, rfl, rfl⟩ := h
      exact parseEntry_d a0_0 a0_1 false kd dir bl nm w hk hv rfl (hB _ _ h1).1 (hB _ _ h1).2 (hN _ _ (by omega)).1
    by_cases h3 : goodInoB (leVal (nxt (bytesOf a0_1) 0 2)) = true
    rotate_left
    · rw [if_neg (fun hh => h3 hh.2.2.2.1)] at h
      simp only [Prod.mk.injEq] at h
      obtain ⟨rfl, rfl, rfl, rfl, rfl⟩ := h
      exact parseEntry_i a0_0 a0_1 false kd dir bl nm w hk hv rfl (hB _ _ h1).1 (hB _ _ h1).2 (hB _ _ (by omega)).1 (Bool.eq_false_iff.mpr h3)
    by_cases h4 : goodKindB (leVal (nxt (bytesOf a0_1) (pos (bytesOf a0_1) 0 2) 1)) = true
    · rw [if_pos ⟨rfl, h1, h2, h3, h4⟩] at h
      simp only [Prod.mk.injEq] at h
      obtain ⟨rfl, rfl, rfl, rfl, rfl⟩ := h
      exact parseEntry_ok a0_0 a0_1 false kd dir bl nm w hk hv rfl (hB _ _ h1).1 (hB _ _ h1).2 (hB _ _ (by omega)).1 h3 h4
    · rw [if_neg (fun hh => h4 hh.2.2.2.2)] at h
      simp only [Prod.mk.injEq] at h
      obtain ⟨rfl, rfl, rfl, rfl, rfl⟩ := h
      exact parseEntry_t a0_0 a0_1 false kd dir bl nm w hk hv rfl (hB _ _ h1).1 (hB _ _ h1).2 (hB _ _ (by omega)).1 h3 (Bool.eq_false_iff.mpr h4)
end Go.Proofs.Ytakchpeohmkpkaa.Q
