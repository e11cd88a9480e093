/- K10, Q7, K9 -/
import Derived.Test.YtakchpeohmkpkaaJa
import Derived.Test.YtakchpeohmkpkaaJb
import Derived.Test.YtakchpeohmkpkaaJc
namespace Go.Proofs.Ytakchpeohmkpkaa.Q
open Go.RowKit Go.Proofs.YtakchpeohmkpkaaW.PrintWords Go.Proofs.YtakchpeohmkpkaaW.PrintLast Go.Proofs.YtakchpeohmkpkaaW.PrintMore Go.Proofs.YtakchpeohmkpkaaW.PrintWords Go.Proofs.Ytakchpeohmkpkaa.Sep
set_option linter.unusedVariables false
set_option linter.unusedSimpArgs false
theorem leBytes_snoc : ∀ (m : Nat) (n : Int), leBytes n (m + 1) = leBytes n m ++ [n / 256 ^ m % 256]
  | 0, n => by simp [leBytes]
  | m + 1, n => by
    rw [leBytes, leBytes_snoc m (n / 256), leBytes]
    rw [Int.ediv_ediv_of_nonneg (by omega : (0 : Int) ≤ 256), show (256 : Int) * 256 ^ m = 256 ^ (m + 1) from by rw [Int.pow_succ]; omega]
    rfl
theorem leBytes_length : ∀ (m : Nat) (n : Int), (leBytes n m).length = m
  | 0, _ => rfl
  | m + 1, n => by rw [leBytes, List.length_cons, leBytes_length m]
theorem leBytes_bytes : ∀ (m : Nat) (n : Int), Bytes (leBytes n m)
  | 0, _ => fun x hx => by simp [leBytes] at hx
  | m + 1, n => fun x hx => by
    rw [leBytes, List.mem_cons] at hx
    rcases hx with rfl | hx
    · omega
    · exact leBytes_bytes m _ x hx
theorem rput_loop (n : Int) (m : Nat) (hm : m ≤ 8) : ∀ (d k i : Nat), i + d = m → d < k → pumiceref01_Put.l0 k n m (leBytes n i) i = some (leBytes n m)
  | 0, k + 1, i, h, _ => by
    have hi : i = m := by omega
    subst hi
    rw [pumiceref01_Put.l0, if_neg (by omega)]
  | d + 1, k + 1, i, h, hk => by
    have hw : wrap64 (8 * (i : Int)) = 8 * (i : Int) := by unfold wrap64; omega
    have hu : IntKind.u64.wrap (8 * (i : Int)) = 8 * (i : Int) := wrap_u64 (by omega) (by omega)
    have hw2 : wrap64 ((i : Int) + 1) = ((i + 1 : Nat) : Int) := by unfold wrap64; omega
    rw [pumiceref01_Put.l0, if_pos (by omega), if_pos (by omega), hw, hu, hw2, if_pos (by omega), if_pos (by rw [leBytes_length]; omega)]
    have hs : shr .u64 n (8 * (i : Int)) % 256 = n / 256 ^ i % 256 := by
      unfold shr
      have h1 : min (8 * (i : Int)).toNat IntKind.u64.bits = 8 * i := by
        have : IntKind.u64.bits = 64 := rfl
        omega
      rw [h1, show (2 : Int) ^ (8 * i) = 256 ^ i from by rw [Int.pow_mul]; rfl]
    rw [hs, ← leBytes_snoc]
    exact rput_loop n m hm d k (i + 1) (by omega) (by omega)
theorem rput_val (n : Int) (m : Nat) (hm : m ≤ 8) : pumiceref01_Put.f 9 n m = some (leBytes n m) := by
  unfold pumiceref01_Put.f
  have := rput_loop n m hm m 9 0 (by omega) (by omega)
  simpa [leBytes] using this
theorem rput_s (n : Int) (m : Nat) (hm : m ≤ 8) (h0 : 0 ≤ n) (h1 : n < 18446744073709551616) : pumiceref06_put.f 9 n m = some (strOfNums (leBytes n m)) := by
  unfold pumiceref06_put.f
  rw [wrap_u64 h0 h1, rput_val n m hm]
  rfl
theorem bytesOf_app (a b : ByteArray) : bytesOf (a ++ b) = bytesOf a ++ bytesOf b := by
  unfold bytesOf
  rw [← List.map_append]
  congr 1
theorem bytesOf_str {xs : List Int} (h : Bytes xs) : bytesOf (strOfNums xs) = xs := by
  unfold bytesOf
  rw [strOfNums_data, List.map_map]
  conv => rhs; rw [← List.map_id xs]
  apply List.map_congr_left
  intro x hx
  have := h x hx
  simp only [Function.comp, id]
  have h2 : (UInt8.ofNat x.toNat).toNat = x.toNat := by
    rw [UInt8.toNat_ofNat']
    omega
  omega
theorem Src.row_new {w0 w : World} {b : Nat} {o : Obj} {xs : List Int} {H : Frag} (h : Src (Value.int .u8) w0 [(b, o)] (some ⟨b, 0, none⟩) xs) (HH : Holds w0 w H) (hm : (b, o) ∈ H) (hl : xs.length ≤ 9223372036854775807) : Kd.F (Kd.int .u8) w (fun k_ => w0.heap.size ≤ k_) (some ⟨b, 0, none⟩) xs.length xs := by
  intro W' hW'
  have hb : W'.heap[b]? = some o := by rw [hW' b (HH.low _ hm) (HH.lt hm)]; exact HH.has _ hm
  have h2 : Src (Value.int .u8) ({ W' with heap := #[] } : World) [(b, o)] (some ⟨b, 0, none⟩) xs := by
    rcases h with h | ⟨b', off, hA, ⟨hlt, _⟩ | h⟩
    · exact .inl h
    · cases hA
      have := HH.low _ hm
      omega
    · exact .inr ⟨b', off, hA, .inr h⟩
  exact h2.C (h1 := fun _ => rfl) (w := W') ⟨⟨rfl, rfl, rfl, by simp, fun k hk => by simp at hk⟩, by simpa using hb, by simp, by simp⟩ hl
def pumiceref06_Pack.f (k v : ByteArray) (g : Bool) : Option (List Int × Int) := (pumiceref06_Right.f k v g).bind fun b => if b = true then some (packed k v g, 0) else some ([], 22)
theorem rright_sizes {k v : ByteArray} {g : Bool} (h : pumiceref06_Right.f k v g = some true) : 1 ≤ k.size ∧ k.size ≤ 64 ∧ v.size ≤ 256 := by
  unfold pumiceref06_Right.f at h
  by_cases h1 : (k.size : Int) ≥ 1
  · rw [if_pos h1] at h
    by_cases h2 : (k.size : Int) ≤ 64
    · rw [if_pos h2] at h
      by_cases h3 : (v.size : Int) ≤ 256
      · omega
      · rw [if_neg h3] at h; cases h
    · rw [if_neg h2] at h; cases h
  · rw [if_neg h1] at h; cases h
def packS (k v : ByteArray) (n : Int) : ByteArray := strOfNums (leBytes n 1) ++ strOfNums (leBytes k.size 1) ++ k ++ strOfNums (leBytes v.size 2) ++ v
theorem packS_bytes (k v : ByteArray) (n : Int) : bytesOf (packS k v n) = leBytes n 1 ++ leBytes k.size 1 ++ bytesOf k ++ leBytes v.size 2 ++ bytesOf v := by
  unfold packS
  rw [bytesOf_app, bytesOf_app, bytesOf_app, bytesOf_app, bytesOf_str (leBytes_bytes _ _), bytesOf_str (leBytes_bytes _ _), bytesOf_str (leBytes_bytes _ _)]
set_option maxHeartbeats 8000000 in
set_option maxRecDepth 100000 in
theorem pack_f (k v : ByteArray) (w : World) (hr : pumiceref06_Right.f k v false = some true) :
    Calls Try.prog 19 #[.agg #[.string k, .string v, .bool false]] w fun e w' => ∃ v0_ : Value, e = .returned (.tuple #[v0_, .int .i64 0]) ∧ Kd.V (Kd.int .u8) 5 w' w.heap.size (fun k_ => w.heap.size ≤ k_) v0_ (bytesOf (packS k v 1)) ∧ Below w.heap.size w w' := by
  obtain ⟨hk1, hk2, hv1⟩ := rright_sizes hr
  have HR := Aside0.mk hr
  have P1 := Aside0.mk (rput_s 1 1 (by decide) (by decide) (by decide))
  have P2 := Aside0.mk (rput_s (k.size : Int) 1 (by decide) (by omega) (by omega))
  have P3 := Aside0.mk (rput_s (v.size : Int) 2 (by decide) (by omega) (by omega))
  have z1 : (strOfNums (leBytes 1 1)).size = 1 := by rw [strOfNums_size, leBytes_length]
  have z2 : (strOfNums (leBytes k.size 1)).size = 1 := by rw [strOfNums_size, leBytes_length]
  have z3 : (strOfNums (leBytes v.size 2)).size = 2 := by rw [strOfNums_size, leBytes_length]
  have Z := Aside0.mk (show (strOfNums (leBytes 1 1)).size + (strOfNums (leBytes k.size 1)).size ≤ 9223372036854775807 ∧ (strOfNums (leBytes 1 1) ++ strOfNums (leBytes k.size 1)).size + k.size ≤ 9223372036854775807 ∧ (strOfNums (leBytes 1 1) ++ strOfNums (leBytes k.size 1) ++ k).size + (strOfNums (leBytes v.size 2)).size ≤ 9223372036854775807 ∧ (strOfNums (leBytes 1 1) ++ strOfNums (leBytes k.size 1) ++ k ++ strOfNums (leBytes v.size 2)).size + v.size ≤ 9223372036854775807 from by simp only [ByteArray.size_append]; omega)
  have ZB := Aside0.mk (show (bytesOf (packS k v 1)).length ≤ 9223372036854775807 from by rw [bytesOf_length]; unfold packS; simp only [ByteArray.size_append]; omega)
  have HA := Aside0.mk (Holds.start w)
  clear hr hk1 hk2 hv1 z1 z2 z3
  go_enter Try.func19, Try.ntmps19
  go_wp2_with (first
    | ((with_reducible apply box_); (case HH => first | exact HA.out | exact HA.out.any rfl rfl rfl rfl); (case hw => rfl); (case hev => conv => lhs; whnf); (case hy => rfl); intro bx w1 HB_; simp only [Act.put, List.setIfInBounds_toArray, List.set_cons_zero, List.set_cons_succ]; clear HA; have HA := Aside0.mk HB_; clear HB_)
    | ((with_reducible apply load1_); (case HH => first | exact HA.out | exact HA.out.any rfl rfl rfl rfl); (case ht => rfl); (case hx => rfl); (case hw => rfl); (case hm => repeat (first | exact List.Mem.head _ | refine List.Mem.tail _ ?_)); (case hv => exact rfl); simp only [Act.put, List.setIfInBounds_toArray, List.set_cons_zero, List.set_cons_succ])
    | ((with_reducible apply loadN_ (n := 3)); (case HH => first | exact HA.out | exact HA.out.any rfl rfl rfl rfl); (case ht => rfl); (case hn => decide +kernel); (case hx => rfl); (case hw => rfl); (case hm => repeat (first | exact List.Mem.head _ | refine List.Mem.tail _ ?_)); (case hv => first | (simp only [List.drop_succ_cons, List.drop_zero, List.take_succ_cons, List.take_zero]; rfl) | rfl); (case hl => rfl); simp only [Act.put, List.setIfInBounds_toArray, List.set_cons_zero, List.set_cons_succ])
    | (go_at_call 23; (with_reducible apply Calls.mono); (case h => exact pumiceref06_Right.calls _ _ _ _ _ HR.out); rintro e w1 ⟨rfl, hb_⟩; have HB_ := HA.out.call1 hb_ rfl rfl rfl rfl; clear hb_ HA; have HA := Aside0.mk HB_; clear HB_))
  refine start_H (by first | exact HA.out | exact HA.out.any rfl rfl rfl rfl) (n := 21) [] #[false, false, false, false, false, false, false, false, false, false, false, false, false, false, false, false, false, false, false, false, false] (by kernel_rfl) rfl rfl ?_
  refine pure_ (i := 0) (N := some 10) (v := ?_) (a' := ?_) #[true, false, false, false, false, false, false, false, false, false, false, false, false, false, false, false, false, false, false, false, false] rfl rfl (by kernel_rfl) (fun _ _ _ h => h) (Or.inl ⟨by rfl, ?_⟩) ?_ ?_
  rotate_left
  · intro w'
    go_simp
    with_reducible rfl
  rotate_left
  · simp only [Act.put, List.setIfInBounds_toArray, List.set_cons_zero, List.set_cons_succ, i64_w, i32_w]
    rfl
  refine pure_ (i := 2) (N := some 12) (v := ?_) (a' := ?_) #[true, false, true, false, false, false, false, false, false, false, false, false, false, false, false, false, false, false, false, false, false] rfl rfl (by kernel_rfl) (fun _ _ _ h => h) (Or.inl ⟨by rfl, ?_⟩) ?_ ?_
  rotate_left
  · intro w'
    go_simp
    with_reducible rfl
  rotate_left
  · simp only [Act.put, List.setIfInBounds_toArray, List.set_cons_zero, List.set_cons_succ, i64_w, i32_w]
    rfl
  refine pure_ (i := 7) (N := some 17) (v := ?_) (a' := ?_) #[true, false, true, false, false, false, false, true, false, false, false, false, false, false, false, false, false, false, false, false, false] rfl rfl (by kernel_rfl) (fun _ _ _ h => h) (Or.inl ⟨by rfl, ?_⟩) ?_ ?_
  rotate_left
  · intro w'
    go_simp
    with_reducible rfl
  rotate_left
  · simp only [Act.put, List.setIfInBounds_toArray, List.set_cons_zero, List.set_cons_succ, i64_w, i32_w]
    rfl
  refine pure_ (i := 10) (N := some 20) (v := ?_) (a' := ?_) #[true, false, true, false, false, false, false, true, false, false, true, false, false, false, false, false, false, false, false, false, false] rfl rfl (by kernel_rfl) (fun _ _ _ h => h) (Or.inl ⟨by rfl, ?_⟩) ?_ ?_
  rotate_left
  · intro w'
    go_simp
    with_reducible rfl
  rotate_left
  · simp only [Act.put, List.setIfInBounds_toArray, List.set_cons_zero, List.set_cons_succ, i64_w, i32_w]
    rfl
  refine pure_ (i := 15) (N := some 25) (v := ?_) (a' := ?_) #[true, false, true, false, false, false, false, true, false, false, true, false, false, false, false, true, false, false, false, false, false] rfl rfl (by kernel_rfl) (fun _ _ _ h => h) (Or.inl ⟨by rfl, ?_⟩) ?_ ?_
  rotate_left
  · intro w'
    go_simp
    with_reducible rfl
  rotate_left
  · simp only [Act.put, List.setIfInBounds_toArray, List.set_cons_zero, List.set_cons_succ, i64_w, i32_w]
    rfl
  apply take1_ (by first | exact HA.out | exact HA.out.any rfl rfl rfl rfl | exact (HA.out.any rfl rfl rfl rfl).tail | exact (HA.out.any rfl rfl rfl rfl).tail.tail | exact (HA.out.any rfl rfl rfl rfl).tail.tail.tail) (i := 3) (l' := #[true, false, true, true, false, false, false, true, false, false, true, false, false, false, false, true, false, false, false, false, false]) (N := some 13)
  case hi => rfl
  case hN => rfl
  case hc => kernel_rfl
  case hop => rfl
  case hx => rfl
  case hw => rfl
  case hm => repeat (first | exact List.Mem.head _ | refine List.Mem.tail _ ?_)
  case ht => rfl
  case hv => rfl
  case hQ => exact fun _ _ _ h => h
  case ha => (simp only [Act.put, List.setIfInBounds_toArray, List.set_cons_zero, List.set_cons_succ, i64_w, i32_w]; rfl)
  refine pure_ (i := 4) (N := some 14) (v := ?_) (a' := ?_) #[true, false, true, true, true, false, false, true, false, false, true, false, false, false, false, true, false, false, false, false, false] rfl rfl (by kernel_rfl) (fun _ _ _ h => h) (Or.inl ⟨by rfl, ?_⟩) ?_ ?_
  rotate_left
  · intro w'
    go_simp
    with_reducible rfl
  rotate_left
  · simp only [Act.put, List.setIfInBounds_toArray, List.set_cons_zero, List.set_cons_succ, i64_w, i32_w]
    rfl
  apply take1_ (by first | exact HA.out | exact HA.out.any rfl rfl rfl rfl | exact (HA.out.any rfl rfl rfl rfl).tail | exact (HA.out.any rfl rfl rfl rfl).tail.tail | exact (HA.out.any rfl rfl rfl rfl).tail.tail.tail) (i := 8) (l' := #[true, false, true, true, true, false, false, true, true, false, true, false, false, false, false, true, false, false, false, false, false]) (N := some 18)
  case hi => rfl
  case hN => rfl
  case hc => kernel_rfl
  case hop => rfl
  case hx => rfl
  case hw => rfl
  case hm => repeat (first | exact List.Mem.head _ | refine List.Mem.tail _ ?_)
  case ht => rfl
  case hv => rfl
  case hQ => exact fun _ _ _ h => h
  case ha => (simp only [Act.put, List.setIfInBounds_toArray, List.set_cons_zero, List.set_cons_succ, i64_w, i32_w]; rfl)
  apply take1_ (by first | exact HA.out | exact HA.out.any rfl rfl rfl rfl | exact (HA.out.any rfl rfl rfl rfl).tail | exact (HA.out.any rfl rfl rfl rfl).tail.tail | exact (HA.out.any rfl rfl rfl rfl).tail.tail.tail) (i := 11) (l' := #[true, false, true, true, true, false, false, true, true, false, true, true, false, false, false, true, false, false, false, false, false]) (N := some 21)
  case hi => rfl
  case hN => rfl
  case hc => kernel_rfl
  case hop => rfl
  case hx => rfl
  case hw => rfl
  case hm => repeat (first | exact List.Mem.head _ | refine List.Mem.tail _ ?_)
  case ht => rfl
  case hv => rfl
  case hQ => exact fun _ _ _ h => h
  case ha => (simp only [Act.put, List.setIfInBounds_toArray, List.set_cons_zero, List.set_cons_succ, i64_w, i32_w]; rfl)
  refine pure_ (i := 12) (N := some 22) (v := ?_) (a' := ?_) #[true, false, true, true, true, false, false, true, true, false, true, true, true, false, false, true, false, false, false, false, false] rfl rfl (by kernel_rfl) (fun _ _ _ h => h) (Or.inl ⟨by rfl, ?_⟩) ?_ ?_
  rotate_left
  · intro w'
    go_simp
    with_reducible rfl
  rotate_left
  · simp only [Act.put, List.setIfInBounds_toArray, List.set_cons_zero, List.set_cons_succ, i64_w, i32_w]
    rfl
  apply take1_ (by first | exact HA.out | exact HA.out.any rfl rfl rfl rfl | exact (HA.out.any rfl rfl rfl rfl).tail | exact (HA.out.any rfl rfl rfl rfl).tail.tail | exact (HA.out.any rfl rfl rfl rfl).tail.tail.tail) (i := 16) (l' := #[true, false, true, true, true, false, false, true, true, false, true, true, true, false, false, true, true, false, false, false, false]) (N := some 26)
  case hi => rfl
  case hN => rfl
  case hc => kernel_rfl
  case hop => rfl
  case hx => rfl
  case hw => rfl
  case hm => repeat (first | exact List.Mem.head _ | refine List.Mem.tail _ ?_)
  case ht => rfl
  case hv => rfl
  case hQ => exact fun _ _ _ h => h
  case ha => (simp only [Act.put, List.setIfInBounds_toArray, List.set_cons_zero, List.set_cons_succ, i64_w, i32_w]; rfl)
  refine one_ (i := 1) (N := some 11) #[true, true, true, true, true, false, false, true, true, false, true, true, true, false, false, true, true, false, false, false, false] rfl rfl (by kernel_rfl) (by decide) (fun K hK => ?_)
  apply call_e Try.func47 (args := #[.int .i64 1, .int .i64 1]); (case hname => kernel_rfl); (case hb => rfl); (case hop => rfl); (case hN => rfl); (case hw => rfl); (case hargs => ((try simp only [List.map_toArray, List.map_cons, List.map_nil]); first | done | rfl)); (case hcl => exact pumiceref06_put.calls 9 1 1 _ _ P1.out); rintro e w1 ⟨rfl, hb_⟩; refine ⟨_, rfl, ?_⟩; (have HB_ := HA.out.call1 hb_ rfl rfl rfl rfl; clear hb_ HA; have HA := Aside0.mk HB_; clear HB_)
  refine hK.out _ _ (by first | exact HA.out | exact HA.out.any rfl rfl rfl rfl | exact (HA.out.any rfl rfl rfl rfl).tail | exact (HA.out.any rfl rfl rfl rfl).tail.tail | exact (HA.out.any rfl rfl rfl rfl).tail.tail.tail) (fun hHeld => ?_)
  clear hK K
  refine norm_ (a' := ?_) ?_ ?_
  rotate_left
  · show Act.put _ (some 11) _ = _
    simp only [Act.put, List.setIfInBounds_toArray, List.set_cons_zero, List.set_cons_succ, i64_w, i32_w]
    rfl
  refine one_ (i := 5) (N := some 15) #[true, true, true, true, true, true, false, true, true, false, true, true, true, false, false, true, true, false, false, false, false] rfl rfl (by kernel_rfl) (by decide) (fun K hK => ?_)
  apply call_e Try.func47 (args := #[.int .i64 k.size, .int .i64 1]); (case hname => kernel_rfl); (case hb => rfl); (case hop => rfl); (case hN => rfl); (case hw => rfl); (case hargs => ((try simp only [List.map_toArray, List.map_cons, List.map_nil]); first | done | rfl)); (case hcl => exact pumiceref06_put.calls 9 k.size 1 _ _ P2.out); rintro e w1 ⟨rfl, hb_⟩; refine ⟨_, rfl, ?_⟩; (have HB_ := HA.out.call1 hb_ rfl rfl rfl rfl; clear hb_ HA; have HA := Aside0.mk HB_; clear HB_)
  refine hK.out _ _ (by first | exact HA.out | exact HA.out.any rfl rfl rfl rfl | exact (HA.out.any rfl rfl rfl rfl).tail | exact (HA.out.any rfl rfl rfl rfl).tail.tail | exact (HA.out.any rfl rfl rfl rfl).tail.tail.tail) (fun hHeld => ?_)
  clear hK K
  refine norm_ (a' := ?_) ?_ ?_
  rotate_left
  · show Act.put _ (some 15) _ = _
    simp only [Act.put, List.setIfInBounds_toArray, List.set_cons_zero, List.set_cons_succ, i64_w, i32_w]
    rfl
  refine take_ (i := 6) (N := some 16) (v := (.string (strOfNums (leBytes 1 1) ++ strOfNums (leBytes k.size 1)))) (a' := ?_) #[true, true, true, true, true, true, true, true, true, false, true, true, true, false, false, true, true, false, false, false, false] rfl rfl (by kernel_rfl) (fun _ _ _ h => h) (Or.inl ⟨by rfl, ?_⟩) (by first | exact HA.out | exact HA.out.any rfl rfl rfl rfl | exact (HA.out.any rfl rfl rfl rfl).tail | exact (HA.out.any rfl rfl rfl rfl).tail.tail | exact (HA.out.any rfl rfl rfl rfl).tail.tail.tail) ?_ ?_
  · intro w' s0
    (obtain ⟨c1, c2, c3, c4⟩ := Z.out; have c := c1; clear c1 c2 c3 c4; (try unfold packS); go_simp; try (simp only [ByteArray.size_append] at c; exact c))
  rotate_left
  · simp only [Act.put, List.setIfInBounds_toArray, List.set_cons_zero, List.set_cons_succ, i64_w, i32_w]
    rfl
  refine take_ (i := 9) (N := some 19) (v := (.string (strOfNums (leBytes 1 1) ++ strOfNums (leBytes k.size 1) ++ k))) (a' := ?_) #[true, true, true, true, true, true, true, true, true, true, true, true, true, false, false, true, true, false, false, false, false] rfl rfl (by kernel_rfl) (fun _ _ _ h => h) (Or.inl ⟨by rfl, ?_⟩) (by first | exact HA.out | exact HA.out.any rfl rfl rfl rfl | exact (HA.out.any rfl rfl rfl rfl).tail | exact (HA.out.any rfl rfl rfl rfl).tail.tail | exact (HA.out.any rfl rfl rfl rfl).tail.tail.tail) ?_ ?_
  · intro w' s0
    (obtain ⟨c1, c2, c3, c4⟩ := Z.out; have c := c2; clear c1 c2 c3 c4; (try unfold packS); go_simp; try (simp only [ByteArray.size_append] at c; exact c))
  rotate_left
  · simp only [Act.put, List.setIfInBounds_toArray, List.set_cons_zero, List.set_cons_succ, i64_w, i32_w]
    rfl
  refine one_ (i := 13) (N := some 23) #[true, true, true, true, true, true, true, true, true, true, true, true, true, true, false, true, true, false, false, false, false] rfl rfl (by kernel_rfl) (by decide) (fun K hK => ?_)
  apply call_e Try.func47 (args := #[.int .i64 v.size, .int .i64 2]); (case hname => kernel_rfl); (case hb => rfl); (case hop => rfl); (case hN => rfl); (case hw => rfl); (case hargs => ((try simp only [List.map_toArray, List.map_cons, List.map_nil]); first | done | rfl)); (case hcl => exact pumiceref06_put.calls 9 v.size 2 _ _ P3.out); rintro e w1 ⟨rfl, hb_⟩; refine ⟨_, rfl, ?_⟩; (have HB_ := HA.out.call1 hb_ rfl rfl rfl rfl; clear hb_ HA; have HA := Aside0.mk HB_; clear HB_)
  refine hK.out _ _ (by first | exact HA.out | exact HA.out.any rfl rfl rfl rfl | exact (HA.out.any rfl rfl rfl rfl).tail | exact (HA.out.any rfl rfl rfl rfl).tail.tail | exact (HA.out.any rfl rfl rfl rfl).tail.tail.tail) (fun hHeld => ?_)
  clear hK K
  refine norm_ (a' := ?_) ?_ ?_
  rotate_left
  · show Act.put _ (some 23) _ = _
    simp only [Act.put, List.setIfInBounds_toArray, List.set_cons_zero, List.set_cons_succ, i64_w, i32_w]
    rfl
  refine take_ (i := 14) (N := some 24) (v := (.string (strOfNums (leBytes 1 1) ++ strOfNums (leBytes k.size 1) ++ k ++ strOfNums (leBytes v.size 2)))) (a' := ?_) #[true, true, true, true, true, true, true, true, true, true, true, true, true, true, true, true, true, false, false, false, false] rfl rfl (by kernel_rfl) (fun _ _ _ h => h) (Or.inl ⟨by rfl, ?_⟩) (by first | exact HA.out | exact HA.out.any rfl rfl rfl rfl | exact (HA.out.any rfl rfl rfl rfl).tail | exact (HA.out.any rfl rfl rfl rfl).tail.tail | exact (HA.out.any rfl rfl rfl rfl).tail.tail.tail) ?_ ?_
  · intro w' s0
    (obtain ⟨c1, c2, c3, c4⟩ := Z.out; have c := c3; clear c1 c2 c3 c4; (try unfold packS); go_simp; try (simp only [ByteArray.size_append] at c; exact c))
  rotate_left
  · simp only [Act.put, List.setIfInBounds_toArray, List.set_cons_zero, List.set_cons_succ, i64_w, i32_w]
    rfl
  refine take_ (i := 17) (N := some 27) (v := (.string (packS k v 1))) (a' := ?_) #[true, true, true, true, true, true, true, true, true, true, true, true, true, true, true, true, true, true, false, false, false] rfl rfl (by kernel_rfl) (fun _ _ _ h => h) (Or.inl ⟨by rfl, ?_⟩) (by first | exact HA.out | exact HA.out.any rfl rfl rfl rfl | exact (HA.out.any rfl rfl rfl rfl).tail | exact (HA.out.any rfl rfl rfl rfl).tail.tail | exact (HA.out.any rfl rfl rfl rfl).tail.tail.tail) ?_ ?_
  · intro w' s0
    (obtain ⟨c1, c2, c3, c4⟩ := Z.out; have c := c4; clear c1 c2 c3 c4; (try unfold packS); go_simp; try (simp only [ByteArray.size_append] at c; exact c))
  rotate_left
  · simp only [Act.put, List.setIfInBounds_toArray, List.set_cons_zero, List.set_cons_succ, i64_w, i32_w]
    rfl
  refine one_ (i := 18) (N := some 28) #[true, true, true, true, true, true, true, true, true, true, true, true, true, true, true, true, true, true, true, false, false] rfl rfl (by kernel_rfl) (by decide) (fun K hK => ?_)
  (apply conv_e; (case HH => first | exact HA.out | exact HA.out.any rfl rfl rfl rfl); (case hop => rfl); (case hN => rfl); (case hw => rfl); (case hev => conv => lhs; whnf); (case hv => rfl); (case hs => exact Try.underlying9); (case hd => exact Try.underlying34); (case he => exact Try.underlying5); intro bs w1 os caps HB_ HSs hcaps; clear HA; have HA := Aside0.mk HB_; clear HB_; have HSs := Aside0.mk HSs; have hcaps := Aside0.mk hcaps)
  refine hK.out _ _ (by first | exact HA.out | exact HA.out.any rfl rfl rfl rfl | exact (HA.out.any rfl rfl rfl rfl).tail | exact (HA.out.any rfl rfl rfl rfl).tail.tail | exact (HA.out.any rfl rfl rfl rfl).tail.tail.tail) (fun hHeld => ?_)
  clear hK K
  refine norm_ (a' := ?_) ?_ ?_
  rotate_left
  · show Act.put _ (some 28) _ = _
    simp only [Act.put, List.setIfInBounds_toArray, List.set_cons_zero, List.set_cons_succ, i64_w, i32_w]
    rfl
  refine pure_ (i := 19) (N := some 2) (v := ?_) (a' := ?_) #[true, true, true, true, true, true, true, true, true, true, true, true, true, true, true, true, true, true, true, true, false] rfl rfl (by kernel_rfl) (fun _ _ _ h => h) (Or.inl ⟨by rfl, ?_⟩) ?_ ?_
  rotate_left
  · intro w'
    go_simp
    with_reducible rfl
  rotate_left
  · simp only [Act.put, List.setIfInBounds_toArray, List.set_cons_zero, List.set_cons_succ, i64_w, i32_w]
    rfl
  refine pure_ (i := 20) (N := some 3) (v := ?_) (a' := ?_) #[true, true, true, true, true, true, true, true, true, true, true, true, true, true, true, true, true, true, true, true, true] rfl rfl (by kernel_rfl) (fun _ _ _ h => h) (Or.inl ⟨by rfl, ?_⟩) ?_ ?_
  rotate_left
  · intro w'
    go_simp
    with_reducible rfl
  rotate_left
  · simp only [Act.put, List.setIfInBounds_toArray, List.set_cons_zero, List.set_cons_succ, i64_w, i32_w]
    rfl
  refine done_ (by kernel_rfl) ?_
  go_wp2
  (apply end_list [.tmp 2, .tmp 3]; (case hres => rfl); (case hd => rfl); (case hvs => apply Vals.tmp; apply Vals.tmp; exact .nil); (case hl => simp); (case hR => exact ⟨_, rfl, Kd.V_mk hcaps.out (Src.row_new HSs.out HA.out (by simp) ZB.out), HA.out.below⟩))
set_option maxHeartbeats 8000000 in
set_option maxRecDepth 100000 in
theorem pack_t (k v : ByteArray) (w : World) (hr : pumiceref06_Right.f k v true = some true) :
    Calls Try.prog 19 #[.agg #[.string k, .string v, .bool true]] w fun e w' => ∃ v0_ : Value, e = .returned (.tuple #[v0_, .int .i64 0]) ∧ Kd.V (Kd.int .u8) 5 w' w.heap.size (fun k_ => w.heap.size ≤ k_) v0_ (bytesOf (packS k v 2)) ∧ Below w.heap.size w w' := by
  obtain ⟨hk1, hk2, hv1⟩ := rright_sizes hr
  have HR := Aside0.mk hr
  have P1 := Aside0.mk (rput_s 2 1 (by decide) (by decide) (by decide))
  have P2 := Aside0.mk (rput_s (k.size : Int) 1 (by decide) (by omega) (by omega))
  have P3 := Aside0.mk (rput_s (v.size : Int) 2 (by decide) (by omega) (by omega))
  have z1 : (strOfNums (leBytes 2 1)).size = 1 := by rw [strOfNums_size, leBytes_length]
  have z2 : (strOfNums (leBytes k.size 1)).size = 1 := by rw [strOfNums_size, leBytes_length]
  have z3 : (strOfNums (leBytes v.size 2)).size = 2 := by rw [strOfNums_size, leBytes_length]
  have Z := Aside0.mk (show (strOfNums (leBytes 2 1)).size + (strOfNums (leBytes k.size 1)).size ≤ 9223372036854775807 ∧ (strOfNums (leBytes 2 1) ++ strOfNums (leBytes k.size 1)).size + k.size ≤ 9223372036854775807 ∧ (strOfNums (leBytes 2 1) ++ strOfNums (leBytes k.size 1) ++ k).size + (strOfNums (leBytes v.size 2)).size ≤ 9223372036854775807 ∧ (strOfNums (leBytes 2 1) ++ strOfNums (leBytes k.size 1) ++ k ++ strOfNums (leBytes v.size 2)).size + v.size ≤ 9223372036854775807 from by simp only [ByteArray.size_append]; omega)
  have ZB := Aside0.mk (show (bytesOf (packS k v 2)).length ≤ 9223372036854775807 from by rw [bytesOf_length]; unfold packS; simp only [ByteArray.size_append]; omega)
  have HA := Aside0.mk (Holds.start w)
  clear hr hk1 hk2 hv1 z1 z2 z3
  go_enter Try.func19, Try.ntmps19
  go_wp2_with (first
    | ((with_reducible apply box_); (case HH => first | exact HA.out | exact HA.out.any rfl rfl rfl rfl); (case hw => rfl); (case hev => conv => lhs; whnf); (case hy => rfl); intro bx w1 HB_; simp only [Act.put, List.setIfInBounds_toArray, List.set_cons_zero, List.set_cons_succ]; clear HA; have HA := Aside0.mk HB_; clear HB_)
    | ((with_reducible apply load1_); (case HH => first | exact HA.out | exact HA.out.any rfl rfl rfl rfl); (case ht => rfl); (case hx => rfl); (case hw => rfl); (case hm => repeat (first | exact List.Mem.head _ | refine List.Mem.tail _ ?_)); (case hv => exact rfl); simp only [Act.put, List.setIfInBounds_toArray, List.set_cons_zero, List.set_cons_succ])
    | ((with_reducible apply loadN_ (n := 3)); (case HH => first | exact HA.out | exact HA.out.any rfl rfl rfl rfl); (case ht => rfl); (case hn => decide +kernel); (case hx => rfl); (case hw => rfl); (case hm => repeat (first | exact List.Mem.head _ | refine List.Mem.tail _ ?_)); (case hv => first | (simp only [List.drop_succ_cons, List.drop_zero, List.take_succ_cons, List.take_zero]; rfl) | rfl); (case hl => rfl); simp only [Act.put, List.setIfInBounds_toArray, List.set_cons_zero, List.set_cons_succ])
    | (go_at_call 23; (with_reducible apply Calls.mono); (case h => exact pumiceref06_Right.calls _ _ _ _ _ HR.out); rintro e w1 ⟨rfl, hb_⟩; have HB_ := HA.out.call1 hb_ rfl rfl rfl rfl; clear hb_ HA; have HA := Aside0.mk HB_; clear HB_))
  refine start_H (by first | exact HA.out | exact HA.out.any rfl rfl rfl rfl) (n := 21) [] #[false, false, false, false, false, false, false, false, false, false, false, false, false, false, false, false, false, false, false, false, false] (by kernel_rfl) rfl rfl ?_
  refine pure_ (i := 0) (N := some 10) (v := ?_) (a' := ?_) #[true, false, false, false, false, false, false, false, false, false, false, false, false, false, false, false, false, false, false, false, false] rfl rfl (by kernel_rfl) (fun _ _ _ h => h) (Or.inl ⟨by rfl, ?_⟩) ?_ ?_
  rotate_left
  · intro w'
    go_simp
    with_reducible rfl
  rotate_left
  · simp only [Act.put, List.setIfInBounds_toArray, List.set_cons_zero, List.set_cons_succ, i64_w, i32_w]
    rfl
  refine pure_ (i := 2) (N := some 12) (v := ?_) (a' := ?_) #[true, false, true, false, false, false, false, false, false, false, false, false, false, false, false, false, false, false, false, false, false] rfl rfl (by kernel_rfl) (fun _ _ _ h => h) (Or.inl ⟨by rfl, ?_⟩) ?_ ?_
  rotate_left
  · intro w'
    go_simp
    with_reducible rfl
  rotate_left
  · simp only [Act.put, List.setIfInBounds_toArray, List.set_cons_zero, List.set_cons_succ, i64_w, i32_w]
    rfl
  refine pure_ (i := 7) (N := some 17) (v := ?_) (a' := ?_) #[true, false, true, false, false, false, false, true, false, false, false, false, false, false, false, false, false, false, false, false, false] rfl rfl (by kernel_rfl) (fun _ _ _ h => h) (Or.inl ⟨by rfl, ?_⟩) ?_ ?_
  rotate_left
  · intro w'
    go_simp
    with_reducible rfl
  rotate_left
  · simp only [Act.put, List.setIfInBounds_toArray, List.set_cons_zero, List.set_cons_succ, i64_w, i32_w]
    rfl
  refine pure_ (i := 10) (N := some 20) (v := ?_) (a' := ?_) #[true, false, true, false, false, false, false, true, false, false, true, false, false, false, false, false, false, false, false, false, false] rfl rfl (by kernel_rfl) (fun _ _ _ h => h) (Or.inl ⟨by rfl, ?_⟩) ?_ ?_
  rotate_left
  · intro w'
    go_simp
    with_reducible rfl
  rotate_left
  · simp only [Act.put, List.setIfInBounds_toArray, List.set_cons_zero, List.set_cons_succ, i64_w, i32_w]
    rfl
  refine pure_ (i := 15) (N := some 25) (v := ?_) (a' := ?_) #[true, false, true, false, false, false, false, true, false, false, true, false, false, false, false, true, false, false, false, false, false] rfl rfl (by kernel_rfl) (fun _ _ _ h => h) (Or.inl ⟨by rfl, ?_⟩) ?_ ?_
  rotate_left
  · intro w'
    go_simp
    with_reducible rfl
  rotate_left
  · simp only [Act.put, List.setIfInBounds_toArray, List.set_cons_zero, List.set_cons_succ, i64_w, i32_w]
    rfl
  apply take1_ (by first | exact HA.out | exact HA.out.any rfl rfl rfl rfl | exact (HA.out.any rfl rfl rfl rfl).tail | exact (HA.out.any rfl rfl rfl rfl).tail.tail | exact (HA.out.any rfl rfl rfl rfl).tail.tail.tail) (i := 3) (l' := #[true, false, true, true, false, false, false, true, false, false, true, false, false, false, false, true, false, false, false, false, false]) (N := some 13)
  case hi => rfl
  case hN => rfl
  case hc => kernel_rfl
  case hop => rfl
  case hx => rfl
  case hw => rfl
  case hm => repeat (first | exact List.Mem.head _ | refine List.Mem.tail _ ?_)
  case ht => rfl
  case hv => rfl
  case hQ => exact fun _ _ _ h => h
  case ha => (simp only [Act.put, List.setIfInBounds_toArray, List.set_cons_zero, List.set_cons_succ, i64_w, i32_w]; rfl)
  refine pure_ (i := 4) (N := some 14) (v := ?_) (a' := ?_) #[true, false, true, true, true, false, false, true, false, false, true, false, false, false, false, true, false, false, false, false, false] rfl rfl (by kernel_rfl) (fun _ _ _ h => h) (Or.inl ⟨by rfl, ?_⟩) ?_ ?_
  rotate_left
  · intro w'
    go_simp
    with_reducible rfl
  rotate_left
  · simp only [Act.put, List.setIfInBounds_toArray, List.set_cons_zero, List.set_cons_succ, i64_w, i32_w]
    rfl
  apply take1_ (by first | exact HA.out | exact HA.out.any rfl rfl rfl rfl | exact (HA.out.any rfl rfl rfl rfl).tail | exact (HA.out.any rfl rfl rfl rfl).tail.tail | exact (HA.out.any rfl rfl rfl rfl).tail.tail.tail) (i := 8) (l' := #[true, false, true, true, true, false, false, true, true, false, true, false, false, false, false, true, false, false, false, false, false]) (N := some 18)
  case hi => rfl
  case hN => rfl
  case hc => kernel_rfl
  case hop => rfl
  case hx => rfl
  case hw => rfl
  case hm => repeat (first | exact List.Mem.head _ | refine List.Mem.tail _ ?_)
  case ht => rfl
  case hv => rfl
  case hQ => exact fun _ _ _ h => h
  case ha => (simp only [Act.put, List.setIfInBounds_toArray, List.set_cons_zero, List.set_cons_succ, i64_w, i32_w]; rfl)
  apply take1_ (by first | exact HA.out | exact HA.out.any rfl rfl rfl rfl | exact (HA.out.any rfl rfl rfl rfl).tail | exact (HA.out.any rfl rfl rfl rfl).tail.tail | exact (HA.out.any rfl rfl rfl rfl).tail.tail.tail) (i := 11) (l' := #[true, false, true, true, true, false, false, true, true, false, true, true, false, false, false, true, false, false, false, false, false]) (N := some 21)
  case hi => rfl
  case hN => rfl
  case hc => kernel_rfl
  case hop => rfl
  case hx => rfl
  case hw => rfl
  case hm => repeat (first | exact List.Mem.head _ | refine List.Mem.tail _ ?_)
  case ht => rfl
  case hv => rfl
  case hQ => exact fun _ _ _ h => h
  case ha => (simp only [Act.put, List.setIfInBounds_toArray, List.set_cons_zero, List.set_cons_succ, i64_w, i32_w]; rfl)
  refine pure_ (i := 12) (N := some 22) (v := ?_) (a' := ?_) #[true, false, true, true, true, false, false, true, true, false, true, true, true, false, false, true, false, false, false, false, false] rfl rfl (by kernel_rfl) (fun _ _ _ h => h) (Or.inl ⟨by rfl, ?_⟩) ?_ ?_
  rotate_left
  · intro w'
    go_simp
    with_reducible rfl
  rotate_left
  · simp only [Act.put, List.setIfInBounds_toArray, List.set_cons_zero, List.set_cons_succ, i64_w, i32_w]
    rfl
  apply take1_ (by first | exact HA.out | exact HA.out.any rfl rfl rfl rfl | exact (HA.out.any rfl rfl rfl rfl).tail | exact (HA.out.any rfl rfl rfl rfl).tail.tail | exact (HA.out.any rfl rfl rfl rfl).tail.tail.tail) (i := 16) (l' := #[true, false, true, true, true, false, false, true, true, false, true, true, true, false, false, true, true, false, false, false, false]) (N := some 26)
  case hi => rfl
  case hN => rfl
  case hc => kernel_rfl
  case hop => rfl
  case hx => rfl
  case hw => rfl
  case hm => repeat (first | exact List.Mem.head _ | refine List.Mem.tail _ ?_)
  case ht => rfl
  case hv => rfl
  case hQ => exact fun _ _ _ h => h
  case ha => (simp only [Act.put, List.setIfInBounds_toArray, List.set_cons_zero, List.set_cons_succ, i64_w, i32_w]; rfl)
  refine one_ (i := 1) (N := some 11) #[true, true, true, true, true, false, false, true, true, false, true, true, true, false, false, true, true, false, false, false, false] rfl rfl (by kernel_rfl) (by decide) (fun K hK => ?_)
  apply call_e Try.func47 (args := #[.int .i64 2, .int .i64 1]); (case hname => kernel_rfl); (case hb => rfl); (case hop => rfl); (case hN => rfl); (case hw => rfl); (case hargs => ((try simp only [List.map_toArray, List.map_cons, List.map_nil]); first | done | rfl)); (case hcl => exact pumiceref06_put.calls 9 2 1 _ _ P1.out); rintro e w1 ⟨rfl, hb_⟩; refine ⟨_, rfl, ?_⟩; (have HB_ := HA.out.call1 hb_ rfl rfl rfl rfl; clear hb_ HA; have HA := Aside0.mk HB_; clear HB_)
  refine hK.out _ _ (by first | exact HA.out | exact HA.out.any rfl rfl rfl rfl | exact (HA.out.any rfl rfl rfl rfl).tail | exact (HA.out.any rfl rfl rfl rfl).tail.tail | exact (HA.out.any rfl rfl rfl rfl).tail.tail.tail) (fun hHeld => ?_)
  clear hK K
  refine norm_ (a' := ?_) ?_ ?_
  rotate_left
  · show Act.put _ (some 11) _ = _
    simp only [Act.put, List.setIfInBounds_toArray, List.set_cons_zero, List.set_cons_succ, i64_w, i32_w]
    rfl
  refine one_ (i := 5) (N := some 15) #[true, true, true, true, true, true, false, true, true, false, true, true, true, false, false, true, true, false, false, false, false] rfl rfl (by kernel_rfl) (by decide) (fun K hK => ?_)
  apply call_e Try.func47 (args := #[.int .i64 k.size, .int .i64 1]); (case hname => kernel_rfl); (case hb => rfl); (case hop => rfl); (case hN => rfl); (case hw => rfl); (case hargs => ((try simp only [List.map_toArray, List.map_cons, List.map_nil]); first | done | rfl)); (case hcl => exact pumiceref06_put.calls 9 k.size 1 _ _ P2.out); rintro e w1 ⟨rfl, hb_⟩; refine ⟨_, rfl, ?_⟩; (have HB_ := HA.out.call1 hb_ rfl rfl rfl rfl; clear hb_ HA; have HA := Aside0.mk HB_; clear HB_)
  refine hK.out _ _ (by first | exact HA.out | exact HA.out.any rfl rfl rfl rfl | exact (HA.out.any rfl rfl rfl rfl).tail | exact (HA.out.any rfl rfl rfl rfl).tail.tail | exact (HA.out.any rfl rfl rfl rfl).tail.tail.tail) (fun hHeld => ?_)
  clear hK K
  refine norm_ (a' := ?_) ?_ ?_
  rotate_left
  · show Act.put _ (some 15) _ = _
    simp only [Act.put, List.setIfInBounds_toArray, List.set_cons_zero, List.set_cons_succ, i64_w, i32_w]
    rfl
  refine take_ (i := 6) (N := some 16) (v := (.string (strOfNums (leBytes 2 1) ++ strOfNums (leBytes k.size 1)))) (a' := ?_) #[true, true, true, true, true, true, true, true, true, false, true, true, true, false, false, true, true, false, false, false, false] rfl rfl (by kernel_rfl) (fun _ _ _ h => h) (Or.inl ⟨by rfl, ?_⟩) (by first | exact HA.out | exact HA.out.any rfl rfl rfl rfl | exact (HA.out.any rfl rfl rfl rfl).tail | exact (HA.out.any rfl rfl rfl rfl).tail.tail | exact (HA.out.any rfl rfl rfl rfl).tail.tail.tail) ?_ ?_
  · intro w' s0
    (obtain ⟨c1, c2, c3, c4⟩ := Z.out; have c := c1; clear c1 c2 c3 c4; (try unfold packS); go_simp; try (simp only [ByteArray.size_append] at c; exact c))
  rotate_left
  · simp only [Act.put, List.setIfInBounds_toArray, List.set_cons_zero, List.set_cons_succ, i64_w, i32_w]
    rfl
  refine take_ (i := 9) (N := some 19) (v := (.string (strOfNums (leBytes 2 1) ++ strOfNums (leBytes k.size 1) ++ k))) (a' := ?_) #[true, true, true, true, true, true, true, true, true, true, true, true, true, false, false, true, true, false, false, false, false] rfl rfl (by kernel_rfl) (fun _ _ _ h => h) (Or.inl ⟨by rfl, ?_⟩) (by first | exact HA.out | exact HA.out.any rfl rfl rfl rfl | exact (HA.out.any rfl rfl rfl rfl).tail | exact (HA.out.any rfl rfl rfl rfl).tail.tail | exact (HA.out.any rfl rfl rfl rfl).tail.tail.tail) ?_ ?_
  · intro w' s0
    (obtain ⟨c1, c2, c3, c4⟩ := Z.out; have c := c2; clear c1 c2 c3 c4; (try unfold packS); go_simp; try (simp only [ByteArray.size_append] at c; exact c))
  rotate_left
  · simp only [Act.put, List.setIfInBounds_toArray, List.set_cons_zero, List.set_cons_succ, i64_w, i32_w]
    rfl
  refine one_ (i := 13) (N := some 23) #[true, true, true, true, true, true, true, true, true, true, true, true, true, true, false, true, true, false, false, false, false] rfl rfl (by kernel_rfl) (by decide) (fun K hK => ?_)
  apply call_e Try.func47 (args := #[.int .i64 v.size, .int .i64 2]); (case hname => kernel_rfl); (case hb => rfl); (case hop => rfl); (case hN => rfl); (case hw => rfl); (case hargs => ((try simp only [List.map_toArray, List.map_cons, List.map_nil]); first | done | rfl)); (case hcl => exact pumiceref06_put.calls 9 v.size 2 _ _ P3.out); rintro e w1 ⟨rfl, hb_⟩; refine ⟨_, rfl, ?_⟩; (have HB_ := HA.out.call1 hb_ rfl rfl rfl rfl; clear hb_ HA; have HA := Aside0.mk HB_; clear HB_)
  refine hK.out _ _ (by first | exact HA.out | exact HA.out.any rfl rfl rfl rfl | exact (HA.out.any rfl rfl rfl rfl).tail | exact (HA.out.any rfl rfl rfl rfl).tail.tail | exact (HA.out.any rfl rfl rfl rfl).tail.tail.tail) (fun hHeld => ?_)
  clear hK K
  refine norm_ (a' := ?_) ?_ ?_
  rotate_left
  · show Act.put _ (some 23) _ = _
    simp only [Act.put, List.setIfInBounds_toArray, List.set_cons_zero, List.set_cons_succ, i64_w, i32_w]
    rfl
  refine take_ (i := 14) (N := some 24) (v := (.string (strOfNums (leBytes 2 1) ++ strOfNums (leBytes k.size 1) ++ k ++ strOfNums (leBytes v.size 2)))) (a' := ?_) #[true, true, true, true, true, true, true, true, true, true, true, true, true, true, true, true, true, false, false, false, false] rfl rfl (by kernel_rfl) (fun _ _ _ h => h) (Or.inl ⟨by rfl, ?_⟩) (by first | exact HA.out | exact HA.out.any rfl rfl rfl rfl | exact (HA.out.any rfl rfl rfl rfl).tail | exact (HA.out.any rfl rfl rfl rfl).tail.tail | exact (HA.out.any rfl rfl rfl rfl).tail.tail.tail) ?_ ?_
  · intro w' s0
    (obtain ⟨c1, c2, c3, c4⟩ := Z.out; have c := c3; clear c1 c2 c3 c4; (try unfold packS); go_simp; try (simp only [ByteArray.size_append] at c; exact c))
  rotate_left
  · simp only [Act.put, List.setIfInBounds_toArray, List.set_cons_zero, List.set_cons_succ, i64_w, i32_w]
    rfl
  refine take_ (i := 17) (N := some 27) (v := (.string (packS k v 2))) (a' := ?_) #[true, true, true, true, true, true, true, true, true, true, true, true, true, true, true, true, true, true, false, false, false] rfl rfl (by kernel_rfl) (fun _ _ _ h => h) (Or.inl ⟨by rfl, ?_⟩) (by first | exact HA.out | exact HA.out.any rfl rfl rfl rfl | exact (HA.out.any rfl rfl rfl rfl).tail | exact (HA.out.any rfl rfl rfl rfl).tail.tail | exact (HA.out.any rfl rfl rfl rfl).tail.tail.tail) ?_ ?_
  · intro w' s0
    (obtain ⟨c1, c2, c3, c4⟩ := Z.out; have c := c4; clear c1 c2 c3 c4; (try unfold packS); go_simp; try (simp only [ByteArray.size_append] at c; exact c))
  rotate_left
  · simp only [Act.put, List.setIfInBounds_toArray, List.set_cons_zero, List.set_cons_succ, i64_w, i32_w]
    rfl
  refine one_ (i := 18) (N := some 28) #[true, true, true, true, true, true, true, true, true, true, true, true, true, true, true, true, true, true, true, false, false] rfl rfl (by kernel_rfl) (by decide) (fun K hK => ?_)
  (apply conv_e; (case HH => first | exact HA.out | exact HA.out.any rfl rfl rfl rfl); (case hop => rfl); (case hN => rfl); (case hw => rfl); (case hev => conv => lhs; whnf); (case hv => rfl); (case hs => exact Try.underlying9); (case hd => exact Try.underlying34); (case he => exact Try.underlying5); intro bs w1 os caps HB_ HSs hcaps; clear HA; have HA := Aside0.mk HB_; clear HB_; have HSs := Aside0.mk HSs; have hcaps := Aside0.mk hcaps)
  refine hK.out _ _ (by first | exact HA.out | exact HA.out.any rfl rfl rfl rfl | exact (HA.out.any rfl rfl rfl rfl).tail | exact (HA.out.any rfl rfl rfl rfl).tail.tail | exact (HA.out.any rfl rfl rfl rfl).tail.tail.tail) (fun hHeld => ?_)
  clear hK K
  refine norm_ (a' := ?_) ?_ ?_
  rotate_left
  · show Act.put _ (some 28) _ = _
    simp only [Act.put, List.setIfInBounds_toArray, List.set_cons_zero, List.set_cons_succ, i64_w, i32_w]
    rfl
  refine pure_ (i := 19) (N := some 2) (v := ?_) (a' := ?_) #[true, true, true, true, true, true, true, true, true, true, true, true, true, true, true, true, true, true, true, true, false] rfl rfl (by kernel_rfl) (fun _ _ _ h => h) (Or.inl ⟨by rfl, ?_⟩) ?_ ?_
  rotate_left
  · intro w'
    go_simp
    with_reducible rfl
  rotate_left
  · simp only [Act.put, List.setIfInBounds_toArray, List.set_cons_zero, List.set_cons_succ, i64_w, i32_w]
    rfl
  refine pure_ (i := 20) (N := some 3) (v := ?_) (a' := ?_) #[true, true, true, true, true, true, true, true, true, true, true, true, true, true, true, true, true, true, true, true, true] rfl rfl (by kernel_rfl) (fun _ _ _ h => h) (Or.inl ⟨by rfl, ?_⟩) ?_ ?_
  rotate_left
  · intro w'
    go_simp
    with_reducible rfl
  rotate_left
  · simp only [Act.put, List.setIfInBounds_toArray, List.set_cons_zero, List.set_cons_succ, i64_w, i32_w]
    rfl
  refine done_ (by kernel_rfl) ?_
  go_wp2
  (apply end_list [.tmp 2, .tmp 3]; (case hres => rfl); (case hd => rfl); (case hvs => apply Vals.tmp; apply Vals.tmp; exact .nil); (case hl => simp); (case hR => exact ⟨_, rfl, Kd.V_mk hcaps.out (Src.row_new HSs.out HA.out (by simp) ZB.out), HA.out.below⟩))
set_option maxHeartbeats 8000000 in
set_option maxRecDepth 100000 in
theorem pack_no (k v : ByteArray) (g : Bool) (w : World) (hr : pumiceref06_Right.f k v g = some false) :
    Calls Try.prog 19 #[.agg #[.string k, .string v, .bool g]] w fun e w' => ∃ v0_ : Value, e = .returned (.tuple #[v0_, .int .i64 22]) ∧ Kd.V (Kd.int .u8) 5 w' w.heap.size (fun k_ => w.heap.size ≤ k_) v0_ [] ∧ Below w.heap.size w w' := by
  have HR := Aside0.mk hr
  have HA := Aside0.mk (Holds.start w)
  clear hr
  go_enter Try.func19, Try.ntmps19
  go_wp2_with (first
    | ((with_reducible apply box_); (case HH => first | exact HA.out | exact HA.out.any rfl rfl rfl rfl); (case hw => rfl); (case hev => conv => lhs; whnf); (case hy => rfl); intro bx w1 HB_; simp only [Act.put, List.setIfInBounds_toArray, List.set_cons_zero, List.set_cons_succ]; clear HA; have HA := Aside0.mk HB_; clear HB_)
    | ((with_reducible apply load1_); (case HH => first | exact HA.out | exact HA.out.any rfl rfl rfl rfl); (case ht => rfl); (case hx => rfl); (case hw => rfl); (case hm => repeat (first | exact List.Mem.head _ | refine List.Mem.tail _ ?_)); (case hv => exact rfl); simp only [Act.put, List.setIfInBounds_toArray, List.set_cons_zero, List.set_cons_succ])
    | ((with_reducible apply loadN_ (n := 3)); (case HH => first | exact HA.out | exact HA.out.any rfl rfl rfl rfl); (case ht => rfl); (case hn => decide +kernel); (case hx => rfl); (case hw => rfl); (case hm => repeat (first | exact List.Mem.head _ | refine List.Mem.tail _ ?_)); (case hv => first | (simp only [List.drop_succ_cons, List.drop_zero, List.take_succ_cons, List.take_zero]; rfl) | rfl); (case hl => rfl); simp only [Act.put, List.setIfInBounds_toArray, List.set_cons_zero, List.set_cons_succ])
    | (go_at_call 23; (with_reducible apply Calls.mono); (case h => exact pumiceref06_Right.calls _ _ _ _ _ HR.out); rintro e w1 ⟨rfl, hb_⟩; have HB_ := HA.out.call1 hb_ rfl rfl rfl rfl; clear hb_ HA; have HA := Aside0.mk HB_; clear HB_))
  (apply end_list [.tmp 2, .tmp 3]; (case hres => rfl); (case hd => rfl); (case hvs => apply Vals.tmp; apply Vals.tmp; exact .nil); (case hl => simp); (case hR => exact ⟨_, rfl, Kd.V_nil _ _ _ _ _, HA.out.below⟩))
theorem pumiceref06_Pack.calls (a0_0 : ByteArray) (a0_1 : ByteArray) (a0_2 : Bool) (r1 : List Int) (r2 : Int) (w : World) (h : pumiceref06_Pack.f a0_0 a0_1 a0_2 = some (r1, r2)) :
    Calls Try.prog 19 #[.agg #[.string a0_0, .string a0_1, .bool a0_2]] w fun e w' => ∃ v0_ : Value, e = .returned (.tuple #[v0_, .int .i64 r2]) ∧ Kd.V (Kd.int .u8) 5 w' w.heap.size (fun k_ => w.heap.size ≤ k_) v0_ r1 ∧ Below w.heap.size w w' := by
  unfold pumiceref06_Pack.f at h
  obtain ⟨b, hb, h⟩ := Option.bind_eq_some_iff.mp h
  cases b with
  | false =>
    rw [if_neg (by simp)] at h
    simp only [Option.some.injEq, Prod.mk.injEq] at h
    obtain ⟨rfl, rfl⟩ := h
    exact pack_no _ _ _ w hb
  | true =>
    rw [if_pos rfl] at h
    simp only [Option.some.injEq, Prod.mk.injEq] at h
    obtain ⟨rfl, rfl⟩ := h
    cases a0_2 with
    | false => have := pack_f a0_0 a0_1 w hb; rw [packS_bytes] at this; exact this
    | true => have := pack_t a0_0 a0_1 w hb; rw [packS_bytes] at this; exact this
end Go.Proofs.Ytakchpeohmkpkaa.Q

namespace Go.Proofs.Ytakchpeohmkpkaa.Q
open Go.RowKit Go.Proofs.YtakchpeohmkpkaaW.PrintWords Go.Proofs.YtakchpeohmkpkaaW.PrintLast Go.Proofs.YtakchpeohmkpkaaW.PrintMore
attribute [local go_sem] max2_int min2_int max_two min_two max_three min_three max_four min_four   -- for this text's walks alone
set_option linter.unusedVariables false
set_option linter.unusedSimpArgs false

/-! ### pumiceref06_Size: function 25 -/
def pumiceref06_Size.f (a0_0 : ByteArray) (a0_1 : ByteArray) (a0_2 : Bool) : Option (Int) := (pumiceref06_Pack.f a0_0 a0_1 a0_2).bind fun bt173 => (if bt173.2 = 0 then (some (wrap64 (6 + (bt173.1.length : Int)))) else (some 0))
set_option maxHeartbeats 8000000 in
set_option maxRecDepth 100000 in
theorem pumiceref06_Size.calls (a0_0 : ByteArray) (a0_1 : ByteArray) (a0_2 : Bool) (r : Int) (w : World) (h : pumiceref06_Size.f a0_0 a0_1 a0_2 = some r) :
    Calls Try.prog 25 #[.agg #[.string a0_0, .string a0_1, .bool a0_2]] w fun e w' => e = .returned (.int .i64 r) ∧ Below w.heap.size w w' := by
  have hu32 := Try.underlying32
  have HB := Aside0.mk (Below.refl w.heap.size w)
  have H : ((pumiceref06_Pack.f a0_0 a0_1 a0_2).bind fun bt173 => (if bt173.2 = 0 then (some (wrap64 (6 + (bt173.1.length : Int)))) else (some 0))) = some r := h
  clear h
  replace H := Option.bind_eq_some_iff.mp H
  obtain ⟨⟨t173, t176⟩, A20, H⟩ := H
  replace H : (if t176 = 0 then (some (wrap64 (6 + (t173.length : Int)))) else (some 0)) = some r := H
  have A2 := Aside0.mk A20
  clear A20
  by_cases c3 : t176 = 0
  · rw [if_pos c3] at H
    have c3b0 : (t176 == 0) = true := beq_iff_eq.mpr c3
    have c3b1 : (t176 != 0) = false := bne_eq_false_iff_eq.mpr c3
    clear c3
    obtain rfl := Option.some.inj H
    go_enter Try.func25, Try.ntmps25
    go_wp2_with (first | ((with_reducible refine gate_dst (N := 1) rfl ?_); refine box_event ?hg (N := 1) ?hd (cs := #[.string a0_0, .string a0_1, .bool a0_2]) (t := 32) ?hr ?_; (case hd => rfl); (case hg => rfl); (case hr => first | (go_simp; done) | (go_simp; rfl)); intro gb172 hg w4 hbox hb; have n0_ := Aside0.mk (below_step (by repeat (first | (with_reducible first | exact HB.out | apply below_alloc | apply pw_below_drewN | apply below_drew1) | exact HB.out)) hb); have n1_ := Aside0.mk (hbox); have n2_ := Aside0.mk ((by rw [hg]; exact (below_size (by repeat (first | (with_reducible first | exact HB.out | apply below_alloc | apply pw_below_drewN | apply below_drew1) | exact HB.out))) : w.heap.size ≤ gb172)); have n3_ := Aside0.mk ((by rw [hg]; exact (below_size (by repeat (first | (with_reducible first | exact HB.out | apply below_alloc | apply pw_below_drewN | apply below_drew1) | exact HB.out))) : w.heap.size ≤ gb172)); clear HB; have HB := n0_; have BK172 := n1_; have GW172 := n2_; have GE172 := n3_; clear n0_ n1_ n2_ n3_; clear hb hbox hg; have hcz5_0 : w4.cell? ⟨gb172, 0, none⟩ = some (.string a0_0) := (blk_cell BK172.out 0).trans rfl; have hcz5_1 : w4.cell? ⟨gb172, 1, none⟩ = some (.string a0_1) := (blk_cell BK172.out 1).trans rfl; have hcz5_2 : w4.cell? ⟨gb172, 2, none⟩ = some (.bool a0_2) := (blk_cell BK172.out 2).trans rfl; have hfz5_0 := blk_frozen BK172.out 0; have hfz5_1 := blk_frozen BK172.out 1; have hfz5_2 := blk_frozen BK172.out 2) | ((with_reducible refine gate_callee (f := 19) rfl ?_); refine goesL_ (some 7) rfl rfl Try.func19 (by kernel_rfl) rfl #[.agg #[.string a0_0, .string a0_1, .bool a0_2]] rfl (by (try simp only [List.map_toArray, List.map_cons, List.map_nil]); first | done | rfl | (simp only [List.length_drop, List.length_take]; rfl)) ?_; (with_reducible refine (pumiceref06_Pack.calls a0_0 a0_1 a0_2 t173 t176 _ A2.out).mono ?_); rintro e w6 ⟨v174, rfl, ho0, hb⟩; refine ⟨_, rfl, ?_⟩; have n0_ := Aside0.mk (Kd.V_lower (Kd.V_mono (ok' := fun k_ => k_ ≠ gb172) ho0 (fun k_ hk_ => (Kd.freshB (g := gb172) (o := .cells #[.string a0_0, .string a0_1, .bool a0_2] 32 (0, 0)) (by (with_reducible repeat (first | refine blk_drewN ?_ _ | refine blk_drew ?_ | refine blk_alloc ?_ _)); exact BK172.out) k_ hk_))) (below_size (by repeat (first | (with_reducible first | exact HB.out | apply below_alloc | apply pw_below_drewN | apply below_drew1 | refine below_set ?_ GE172.out) | exact HB.out)))); have n1_ := Aside0.mk (blk_below (g := gb172) (o := .cells #[.string a0_0, .string a0_1, .bool a0_2] 32 (0, 0)) (by (with_reducible repeat (first | refine blk_drewN ?_ _ | refine blk_drew ?_ | refine blk_alloc ?_ _)); exact BK172.out) hb); have n2_ := Aside0.mk (below_step (by repeat (first | (with_reducible first | exact HB.out | apply below_alloc | apply pw_below_drewN | apply below_drew1 | refine below_set ?_ GE172.out) | exact HB.out)) hb); clear BK172; clear HB; have HO175 := n0_; have BK172 := n1_; have HB := n2_; clear n0_ n1_ n2_; (try clear hb); (try clear hb2); (try clear hk); (try clear hi); (try clear ho0); obtain ⟨Ao7, co7, eo7⟩ := Kd.V_slice HO175.out; subst eo7))
    go_ret
    exact ⟨by first | rfl | exact isEmpty_bne_ _ | (simp [errW_none, errW_some] <;> rfl) | (simp [*, errW_none, errW_some] <;> rfl), by repeat (first | (with_reducible first | exact HB.out | apply below_alloc | apply pw_below_drewN | apply below_drew1 | refine below_set ?_ GE172.out) | exact HB.out)⟩
  · rw [if_neg c3] at H
    have c3b0 : (t176 == 0) = false := beq_eq_false_iff_ne.mpr c3
    have c3b1 : (t176 != 0) = true := bne_iff_ne.mpr c3
    obtain rfl := Option.some.inj H
    go_enter Try.func25, Try.ntmps25
    go_wp2_with (first | ((with_reducible refine gate_dst (N := 1) rfl ?_); refine box_event ?hg (N := 1) ?hd (cs := #[.string a0_0, .string a0_1, .bool a0_2]) (t := 32) ?hr ?_; (case hd => rfl); (case hg => rfl); (case hr => first | (go_simp; done) | (go_simp; rfl)); intro gb172 hg w8 hbox hb; have n0_ := Aside0.mk (below_step (by repeat (first | (with_reducible first | exact HB.out | apply below_alloc | apply pw_below_drewN | apply below_drew1) | exact HB.out)) hb); have n1_ := Aside0.mk (hbox); have n2_ := Aside0.mk ((by rw [hg]; exact (below_size (by repeat (first | (with_reducible first | exact HB.out | apply below_alloc | apply pw_below_drewN | apply below_drew1) | exact HB.out))) : w.heap.size ≤ gb172)); have n3_ := Aside0.mk ((by rw [hg]; exact (below_size (by repeat (first | (with_reducible first | exact HB.out | apply below_alloc | apply pw_below_drewN | apply below_drew1) | exact HB.out))) : w.heap.size ≤ gb172)); clear HB; have HB := n0_; have BK172 := n1_; have GW172 := n2_; have GE172 := n3_; clear n0_ n1_ n2_ n3_; clear hb hbox hg; have hcz9_0 : w8.cell? ⟨gb172, 0, none⟩ = some (.string a0_0) := (blk_cell BK172.out 0).trans rfl; have hcz9_1 : w8.cell? ⟨gb172, 1, none⟩ = some (.string a0_1) := (blk_cell BK172.out 1).trans rfl; have hcz9_2 : w8.cell? ⟨gb172, 2, none⟩ = some (.bool a0_2) := (blk_cell BK172.out 2).trans rfl; have hfz9_0 := blk_frozen BK172.out 0; have hfz9_1 := blk_frozen BK172.out 1; have hfz9_2 := blk_frozen BK172.out 2) | ((with_reducible refine gate_callee (f := 19) rfl ?_); refine goesL_ (some 7) rfl rfl Try.func19 (by kernel_rfl) rfl #[.agg #[.string a0_0, .string a0_1, .bool a0_2]] rfl (by (try simp only [List.map_toArray, List.map_cons, List.map_nil]); first | done | rfl | (simp only [List.length_drop, List.length_take]; rfl)) ?_; (with_reducible refine (pumiceref06_Pack.calls a0_0 a0_1 a0_2 t173 t176 _ A2.out).mono ?_); rintro e w10 ⟨v174, rfl, ho0, hb⟩; refine ⟨_, rfl, ?_⟩; have n0_ := Aside0.mk (Kd.V_lower (Kd.V_mono (ok' := fun k_ => k_ ≠ gb172) ho0 (fun k_ hk_ => (Kd.freshB (g := gb172) (o := .cells #[.string a0_0, .string a0_1, .bool a0_2] 32 (0, 0)) (by (with_reducible repeat (first | refine blk_drewN ?_ _ | refine blk_drew ?_ | refine blk_alloc ?_ _)); exact BK172.out) k_ hk_))) (below_size (by repeat (first | (with_reducible first | exact HB.out | apply below_alloc | apply pw_below_drewN | apply below_drew1 | refine below_set ?_ GE172.out) | exact HB.out)))); have n1_ := Aside0.mk (blk_below (g := gb172) (o := .cells #[.string a0_0, .string a0_1, .bool a0_2] 32 (0, 0)) (by (with_reducible repeat (first | refine blk_drewN ?_ _ | refine blk_drew ?_ | refine blk_alloc ?_ _)); exact BK172.out) hb); have n2_ := Aside0.mk (below_step (by repeat (first | (with_reducible first | exact HB.out | apply below_alloc | apply pw_below_drewN | apply below_drew1 | refine below_set ?_ GE172.out) | exact HB.out)) hb); clear BK172; clear HB; have HO175 := n0_; have BK172 := n1_; have HB := n2_; clear n0_ n1_ n2_; (try clear hb); (try clear hb2); (try clear hk); (try clear hi); (try clear ho0)))
    go_ret
    exact ⟨by first | rfl | exact isEmpty_bne_ _ | (simp [errW_none, errW_some] <;> rfl) | (simp [*, errW_none, errW_some] <;> rfl), by repeat (first | (with_reducible first | exact HB.out | apply below_alloc | apply pw_below_drewN | apply below_drew1 | refine below_set ?_ GE172.out) | exact HB.out)⟩

/-! ### pumiceref06_Inode: function 33 -/
def pumiceref06_Inode.f (k : Nat) (a0_0 : Int) (a0_1 : Int) (a0_2 : Int) (a0_3 : Int) (a0_4 : Int) (a0_5 : Int) (a0_6 : Int) : Option (ByteArray × ByteArray × Bool × Int) := (pumiceref06_RightInode.f a0_0 a0_1 a0_2 a0_3 a0_4 a0_5 a0_6).bind fun t179 => (if t179 = true then ((pumiceref06_InodeKey.f a0_0).bind fun t180 => ((pumiceref06_put.f k a0_1 1).bind fun t181 => ((pumiceref06_put.f k a0_2 2).bind fun t182 => (if t181.size + t182.size ≤ 9223372036854775807 then ((pumiceref06_put.f k a0_3 2).bind fun t183 => (if (t181 ++ t182).size + t183.size ≤ 9223372036854775807 then ((pumiceref06_put.f k a0_4 2).bind fun t184 => (if ((t181 ++ t182) ++ t183).size + t184.size ≤ 9223372036854775807 then ((pumiceref06_put.f k a0_5 2).bind fun t185 => (if (((t181 ++ t182) ++ t183) ++ t184).size + t185.size ≤ 9223372036854775807 then ((pumiceref06_put.f k a0_6 4).bind fun t186 => (if ((((t181 ++ t182) ++ t183) ++ t184) ++ t185).size + t186.size ≤ 9223372036854775807 then (some (t180, ((((t181 ++ t182) ++ t183) ++ t184) ++ t185) ++ t186, false, 0)) else (none))) else (none))) else (none))) else (none))) else (none))))) else (some ((⟨#[]⟩ : ByteArray), (⟨#[]⟩ : ByteArray), false, 22)))
theorem pumiceref06_Inode.mono : ∀ a0 a1 a2 a3 a4 a5 a6 k, LeO (pumiceref06_Inode.f k a0 a1 a2 a3 a4 a5 a6) (pumiceref06_Inode.f (k + 1) a0 a1 a2 a3 a4 a5 a6) := by
  intro a0 a1 a2 a3 a4 a5 a6 k
  unfold pumiceref06_Inode.f
  repeat' first
      | (with_reducible exact pumiceref06_put.mono _ _ _)
      | (with_reducible exact LeO.refl _)
      | (with_reducible exact LeO.none _)
      | (with_reducible refine LeO.ite ?_ ?_)
      | (with_reducible refine LeO.bind ?_ (fun _ => ?_))
      | exact pumiceref06_put.mono _ _ _
      | exact LeO.none _
      | refine LeO.ite ?_ ?_
      | refine LeO.bind ?_ (fun _ => ?_)
def pumiceref06_Inode.T3 : Bool × List (List Nat × List Nat) := (true, [([], []), ([0], [0]), ([1], [1]), ([], []), ([3], [3]), ([4, 2], [4]), ([], []), ([6], [6]), ([7, 5], [7]), ([5, 8], [5, 8]), ([], []), ([10], [10]), ([11, 8], [11]), ([9, 12], [9, 12]), ([], []), ([14], [14]), ([15, 12], [15]), ([13, 16], [13, 16]), ([], []), ([18], [18]), ([19, 16], [19]), ([17, 20], [17, 20]), ([], []), ([22], [22]), ([23, 20], [23]), ([21, 24], [21, 24]), ([2, 25], [2, 25]), ([26, 24, 0, 1, 2, 3, 4, 5, 6, 7, 8, 9, 10, 11, 12, 13, 14, 15, 16, 17, 18, 19, 20, 21, 22, 23, 24, 25, 26], [26]), ([27, 0, 1, 2, 3, 4, 5, 6, 7, 8, 9, 10, 11, 12, 13, 14, 15, 16, 17, 18, 19, 20, 21, 22, 23, 24, 25, 26, 27], [])])
def pumiceref06_Inode.B3 : List Nat := [0, 1, 3, 0, 8, 31, 0, 64, 255, 511, 0, 1024, 3583, 8191, 0, 16384, 56831, 131071, 0, 262144, 908799, 2097151, 0, 4194304, 14540287, 33554431, 67108863, 134217727, 268435455]
theorem pumiceref06_Inode.tab3 : rtab .any (opsOf Try.f33 3) = pumiceref06_Inode.T3 := by kernel_rfl
theorem pumiceref06_Inode.bits3 : waitsOk pumiceref06_Inode.T3.2 pumiceref06_Inode.B3 = true := by kernel_rfl
set_option maxHeartbeats 8000000 in
set_option maxRecDepth 100000 in
theorem pumiceref06_Inode.calls (k : Nat) (a0_0 : Int) (a0_1 : Int) (a0_2 : Int) (a0_3 : Int) (a0_4 : Int) (a0_5 : Int) (a0_6 : Int) (r1 : ByteArray) (r2 : ByteArray) (r3 : Bool) (r4 : Int) (w : World) (h : pumiceref06_Inode.f k a0_0 a0_1 a0_2 a0_3 a0_4 a0_5 a0_6 = some (r1, r2, r3, r4)) :
    Calls Try.prog 33 #[.agg #[.int .i64 a0_0, .int .i64 a0_1, .int .i64 a0_2, .int .i64 a0_3, .int .i64 a0_4, .int .i64 a0_5, .int .i64 a0_6]] w fun e w' => e = .returned (.tuple #[.agg #[.string r1, .string r2, .bool r3], .int .i64 r4]) ∧ Below w.heap.size w w' := by
  have hu52 := Try.underlying52
  have hu32 := Try.underlying32
  have HB := Aside0.mk (Below.refl w.heap.size w)
  have H : ((pumiceref06_RightInode.f a0_0 a0_1 a0_2 a0_3 a0_4 a0_5 a0_6).bind fun t179 => (if t179 = true then ((pumiceref06_InodeKey.f a0_0).bind fun t180 => ((pumiceref06_put.f k a0_1 1).bind fun t181 => ((pumiceref06_put.f k a0_2 2).bind fun t182 => (if t181.size + t182.size ≤ 9223372036854775807 then ((pumiceref06_put.f k a0_3 2).bind fun t183 => (if (t181 ++ t182).size + t183.size ≤ 9223372036854775807 then ((pumiceref06_put.f k a0_4 2).bind fun t184 => (if ((t181 ++ t182) ++ t183).size + t184.size ≤ 9223372036854775807 then ((pumiceref06_put.f k a0_5 2).bind fun t185 => (if (((t181 ++ t182) ++ t183) ++ t184).size + t185.size ≤ 9223372036854775807 then ((pumiceref06_put.f k a0_6 4).bind fun t186 => (if ((((t181 ++ t182) ++ t183) ++ t184) ++ t185).size + t186.size ≤ 9223372036854775807 then (some (t180, ((((t181 ++ t182) ++ t183) ++ t184) ++ t185) ++ t186, false, 0)) else (none))) else (none))) else (none))) else (none))) else (none))))) else (some ((⟨#[]⟩ : ByteArray), (⟨#[]⟩ : ByteArray), false, 22)))) = some (r1, r2, r3, r4) := h
  clear h
  replace H := Option.bind_eq_some_iff.mp H
  obtain ⟨t179, A20, H⟩ := H
  replace H : (if t179 = true then ((pumiceref06_InodeKey.f a0_0).bind fun t180 => ((pumiceref06_put.f k a0_1 1).bind fun t181 => ((pumiceref06_put.f k a0_2 2).bind fun t182 => (if t181.size + t182.size ≤ 9223372036854775807 then ((pumiceref06_put.f k a0_3 2).bind fun t183 => (if (t181 ++ t182).size + t183.size ≤ 9223372036854775807 then ((pumiceref06_put.f k a0_4 2).bind fun t184 => (if ((t181 ++ t182) ++ t183).size + t184.size ≤ 9223372036854775807 then ((pumiceref06_put.f k a0_5 2).bind fun t185 => (if (((t181 ++ t182) ++ t183) ++ t184).size + t185.size ≤ 9223372036854775807 then ((pumiceref06_put.f k a0_6 4).bind fun t186 => (if ((((t181 ++ t182) ++ t183) ++ t184) ++ t185).size + t186.size ≤ 9223372036854775807 then (some (t180, ((((t181 ++ t182) ++ t183) ++ t184) ++ t185) ++ t186, false, 0)) else (none))) else (none))) else (none))) else (none))) else (none))))) else (some ((⟨#[]⟩ : ByteArray), (⟨#[]⟩ : ByteArray), false, 22))) = some (r1, r2, r3, r4) := H
  have A2 := Aside0.mk A20
  clear A20
  by_cases c3 : t179 = true
  · subst c3
    have H1 : ((pumiceref06_InodeKey.f a0_0).bind fun t180 => ((pumiceref06_put.f k a0_1 1).bind fun t181 => ((pumiceref06_put.f k a0_2 2).bind fun t182 => (if t181.size + t182.size ≤ 9223372036854775807 then ((pumiceref06_put.f k a0_3 2).bind fun t183 => (if (t181 ++ t182).size + t183.size ≤ 9223372036854775807 then ((pumiceref06_put.f k a0_4 2).bind fun t184 => (if ((t181 ++ t182) ++ t183).size + t184.size ≤ 9223372036854775807 then ((pumiceref06_put.f k a0_5 2).bind fun t185 => (if (((t181 ++ t182) ++ t183) ++ t184).size + t185.size ≤ 9223372036854775807 then ((pumiceref06_put.f k a0_6 4).bind fun t186 => (if ((((t181 ++ t182) ++ t183) ++ t184) ++ t185).size + t186.size ≤ 9223372036854775807 then (some (t180, ((((t181 ++ t182) ++ t183) ++ t184) ++ t185) ++ t186, false, 0)) else (none))) else (none))) else (none))) else (none))) else (none))))) = some (r1, r2, r3, r4) := by rw [if_pos rfl] at H; exact H
    clear H
    have H := H1
    clear H1
    replace H := Option.bind_eq_some_iff.mp H
    obtain ⟨t180, A40, H⟩ := H
    replace H : ((pumiceref06_put.f k a0_1 1).bind fun t181 => ((pumiceref06_put.f k a0_2 2).bind fun t182 => (if t181.size + t182.size ≤ 9223372036854775807 then ((pumiceref06_put.f k a0_3 2).bind fun t183 => (if (t181 ++ t182).size + t183.size ≤ 9223372036854775807 then ((pumiceref06_put.f k a0_4 2).bind fun t184 => (if ((t181 ++ t182) ++ t183).size + t184.size ≤ 9223372036854775807 then ((pumiceref06_put.f k a0_5 2).bind fun t185 => (if (((t181 ++ t182) ++ t183) ++ t184).size + t185.size ≤ 9223372036854775807 then ((pumiceref06_put.f k a0_6 4).bind fun t186 => (if ((((t181 ++ t182) ++ t183) ++ t184) ++ t185).size + t186.size ≤ 9223372036854775807 then (some (t180, ((((t181 ++ t182) ++ t183) ++ t184) ++ t185) ++ t186, false, 0)) else (none))) else (none))) else (none))) else (none))) else (none)))) = some (r1, r2, r3, r4) := H
    have A4 := Aside0.mk A40
    clear A40
    replace H := Option.bind_eq_some_iff.mp H
    obtain ⟨t181, A50, H⟩ := H
    replace H : ((pumiceref06_put.f k a0_2 2).bind fun t182 => (if t181.size + t182.size ≤ 9223372036854775807 then ((pumiceref06_put.f k a0_3 2).bind fun t183 => (if (t181 ++ t182).size + t183.size ≤ 9223372036854775807 then ((pumiceref06_put.f k a0_4 2).bind fun t184 => (if ((t181 ++ t182) ++ t183).size + t184.size ≤ 9223372036854775807 then ((pumiceref06_put.f k a0_5 2).bind fun t185 => (if (((t181 ++ t182) ++ t183) ++ t184).size + t185.size ≤ 9223372036854775807 then ((pumiceref06_put.f k a0_6 4).bind fun t186 => (if ((((t181 ++ t182) ++ t183) ++ t184) ++ t185).size + t186.size ≤ 9223372036854775807 then (some (t180, ((((t181 ++ t182) ++ t183) ++ t184) ++ t185) ++ t186, false, 0)) else (none))) else (none))) else (none))) else (none))) else (none))) = some (r1, r2, r3, r4) := H
    have A5 := Aside0.mk A50
    clear A50
    replace H := Option.bind_eq_some_iff.mp H
    obtain ⟨t182, A60, H⟩ := H
    replace H : (if t181.size + t182.size ≤ 9223372036854775807 then ((pumiceref06_put.f k a0_3 2).bind fun t183 => (if (t181 ++ t182).size + t183.size ≤ 9223372036854775807 then ((pumiceref06_put.f k a0_4 2).bind fun t184 => (if ((t181 ++ t182) ++ t183).size + t184.size ≤ 9223372036854775807 then ((pumiceref06_put.f k a0_5 2).bind fun t185 => (if (((t181 ++ t182) ++ t183) ++ t184).size + t185.size ≤ 9223372036854775807 then ((pumiceref06_put.f k a0_6 4).bind fun t186 => (if ((((t181 ++ t182) ++ t183) ++ t184) ++ t185).size + t186.size ≤ 9223372036854775807 then (some (t180, ((((t181 ++ t182) ++ t183) ++ t184) ++ t185) ++ t186, false, 0)) else (none))) else (none))) else (none))) else (none))) else (none)) = some (r1, r2, r3, r4) := H
    have A6 := Aside0.mk A60
    clear A60
    by_cases c7 : t181.size + t182.size ≤ 9223372036854775807
    · rw [if_pos c7] at H
      have c7b0 := eq_true c7
      have c7b1 : decide (t181.size + t182.size ≤ 9223372036854775807) = true := decide_eq_true c7
      try have c7b2 : (9223372036854775807 < t181.size + t182.size) = False := eq_false (Nat.not_lt.2 c7)
      try (have c7s := c7; simp [] at c7s)
      replace H := Option.bind_eq_some_iff.mp H
      obtain ⟨t183, A80, H⟩ := H
      replace H : (if (t181 ++ t182).size + t183.size ≤ 9223372036854775807 then ((pumiceref06_put.f k a0_4 2).bind fun t184 => (if ((t181 ++ t182) ++ t183).size + t184.size ≤ 9223372036854775807 then ((pumiceref06_put.f k a0_5 2).bind fun t185 => (if (((t181 ++ t182) ++ t183) ++ t184).size + t185.size ≤ 9223372036854775807 then ((pumiceref06_put.f k a0_6 4).bind fun t186 => (if ((((t181 ++ t182) ++ t183) ++ t184) ++ t185).size + t186.size ≤ 9223372036854775807 then (some (t180, ((((t181 ++ t182) ++ t183) ++ t184) ++ t185) ++ t186, false, 0)) else (none))) else (none))) else (none))) else (none)) = some (r1, r2, r3, r4) := H
      have A8 := Aside0.mk A80
      clear A80
      by_cases c9 : (t181 ++ t182).size + t183.size ≤ 9223372036854775807
      · rw [if_pos c9] at H
        have c9b0 := eq_true c9
        have c9b1 : decide ((t181 ++ t182).size + t183.size ≤ 9223372036854775807) = true := decide_eq_true c9
        try have c9b2 : (9223372036854775807 < (t181 ++ t182).size + t183.size) = False := eq_false (Nat.not_lt.2 c9)
        try (have c9s := c9; simp [] at c9s)
        replace H := Option.bind_eq_some_iff.mp H
        obtain ⟨t184, A100, H⟩ := H
        replace H : (if ((t181 ++ t182) ++ t183).size + t184.size ≤ 9223372036854775807 then ((pumiceref06_put.f k a0_5 2).bind fun t185 => (if (((t181 ++ t182) ++ t183) ++ t184).size + t185.size ≤ 9223372036854775807 then ((pumiceref06_put.f k a0_6 4).bind fun t186 => (if ((((t181 ++ t182) ++ t183) ++ t184) ++ t185).size + t186.size ≤ 9223372036854775807 then (some (t180, ((((t181 ++ t182) ++ t183) ++ t184) ++ t185) ++ t186, false, 0)) else (none))) else (none))) else (none)) = some (r1, r2, r3, r4) := H
        have A10 := Aside0.mk A100
        clear A100
        by_cases c11 : ((t181 ++ t182) ++ t183).size + t184.size ≤ 9223372036854775807
        · rw [if_pos c11] at H
          have c11b0 := eq_true c11
          have c11b1 : decide (((t181 ++ t182) ++ t183).size + t184.size ≤ 9223372036854775807) = true := decide_eq_true c11
          try have c11b2 : (9223372036854775807 < ((t181 ++ t182) ++ t183).size + t184.size) = False := eq_false (Nat.not_lt.2 c11)
          try (have c11s := c11; simp [] at c11s)
          replace H := Option.bind_eq_some_iff.mp H
          obtain ⟨t185, A120, H⟩ := H
          replace H : (if (((t181 ++ t182) ++ t183) ++ t184).size + t185.size ≤ 9223372036854775807 then ((pumiceref06_put.f k a0_6 4).bind fun t186 => (if ((((t181 ++ t182) ++ t183) ++ t184) ++ t185).size + t186.size ≤ 9223372036854775807 then (some (t180, ((((t181 ++ t182) ++ t183) ++ t184) ++ t185) ++ t186, false, 0)) else (none))) else (none)) = some (r1, r2, r3, r4) := H
          have A12 := Aside0.mk A120
          clear A120
          by_cases c13 : (((t181 ++ t182) ++ t183) ++ t184).size + t185.size ≤ 9223372036854775807
          · rw [if_pos c13] at H
            have c13b0 := eq_true c13
            have c13b1 : decide ((((t181 ++ t182) ++ t183) ++ t184).size + t185.size ≤ 9223372036854775807) = true := decide_eq_true c13
            try have c13b2 : (9223372036854775807 < (((t181 ++ t182) ++ t183) ++ t184).size + t185.size) = False := eq_false (Nat.not_lt.2 c13)
            try (have c13s := c13; simp [] at c13s)
            replace H := Option.bind_eq_some_iff.mp H
            obtain ⟨t186, A140, H⟩ := H
            replace H : (if ((((t181 ++ t182) ++ t183) ++ t184) ++ t185).size + t186.size ≤ 9223372036854775807 then (some (t180, ((((t181 ++ t182) ++ t183) ++ t184) ++ t185) ++ t186, false, 0)) else (none)) = some (r1, r2, r3, r4) := H
            have A14 := Aside0.mk A140
            clear A140
            by_cases c15 : ((((t181 ++ t182) ++ t183) ++ t184) ++ t185).size + t186.size ≤ 9223372036854775807
            · rw [if_pos c15] at H
              have c15b0 := eq_true c15
              have c15b1 : decide (((((t181 ++ t182) ++ t183) ++ t184) ++ t185).size + t186.size ≤ 9223372036854775807) = true := decide_eq_true c15
              try have c15b2 : (9223372036854775807 < ((((t181 ++ t182) ++ t183) ++ t184) ++ t185).size + t186.size) = False := eq_false (Nat.not_lt.2 c15)
              try (have c15s := c15; simp [] at c15s)
              simp only [Option.some.injEq, Prod.mk.injEq] at H
              obtain ⟨rfl, rfl, rfl, rfl⟩ := H
              go_enter Try.func33, Try.ntmps33
              try go_wp2_with (first | ((with_reducible refine gate_dst (N := 1) rfl ?_); refine box_event ?hg (N := 1) ?hd (cs := #[.int .i64 a0_0, .int .i64 a0_1, .int .i64 a0_2, .int .i64 a0_3, .int .i64 a0_4, .int .i64 a0_5, .int .i64 a0_6]) (t := 52) ?hr ?_; (case hd => rfl); (case hg => rfl); (case hr => first | (go_simp; done) | (go_simp; rfl)); intro gb177 hg w16 hbox hb; have n0_ := Aside0.mk (below_step (by repeat (first | (with_reducible first | exact HB.out | apply below_alloc | apply pw_below_drewN | apply below_drew1) | exact HB.out)) hb); have n1_ := Aside0.mk (hbox); have n2_ := Aside0.mk ((by rw [hg]; exact (below_size (by repeat (first | (with_reducible first | exact HB.out | apply below_alloc | apply pw_below_drewN | apply below_drew1) | exact HB.out))) : w.heap.size ≤ gb177)); have n3_ := Aside0.mk ((by rw [hg]; exact (below_size (by repeat (first | (with_reducible first | exact HB.out | apply below_alloc | apply pw_below_drewN | apply below_drew1) | exact HB.out))) : w.heap.size ≤ gb177)); clear HB; have HB := n0_; have BK177 := n1_; have GW177 := n2_; have GE177 := n3_; clear n0_ n1_ n2_ n3_; clear hb hbox hg) | ((with_reducible refine gate_dst (N := 2) rfl ?_); refine box_event ?hg (N := 2) ?hd (cs := #[.string (⟨#[]⟩ : ByteArray), .string (⟨#[]⟩ : ByteArray), .bool false]) (t := 32) ?hr ?_; (case hd => rfl); (case hg => rfl); (case hr => first | (go_simp; done) | (go_simp; rfl)); intro gb178 hg w17 hbox hb; have n0_ := Aside0.mk (blk_below (g := gb177) (o := .cells #[.int .i64 a0_0, .int .i64 a0_1, .int .i64 a0_2, .int .i64 a0_3, .int .i64 a0_4, .int .i64 a0_5, .int .i64 a0_6] 52 (0, 0)) (by (with_reducible repeat (first | refine blk_drewN ?_ _ | refine blk_drew ?_ | refine blk_alloc ?_ _)); exact BK177.out) hb); have n1_ := Aside0.mk (below_step (by repeat (first | (with_reducible first | exact HB.out | apply below_alloc | apply pw_below_drewN | apply below_drew1 | refine below_set ?_ GE177.out) | exact HB.out)) hb); have n2_ := Aside0.mk (hbox); have n3_ := Aside0.mk ((by rw [hg]; exact (below_size (by repeat (first | (with_reducible first | exact HB.out | apply below_alloc | apply pw_below_drewN | apply below_drew1 | refine below_set ?_ GE177.out) | exact HB.out))) : w.heap.size ≤ gb178)); have n4_ := Aside0.mk ((by rw [hg]; exact (below_size (by repeat (first | (with_reducible first | exact HB.out | apply below_alloc | apply pw_below_drewN | apply below_drew1 | refine below_set ?_ GE177.out) | exact HB.out))) : w.heap.size ≤ gb178)); have n5_ := Aside0.mk ((by rw [hg]; exact Nat.ne_of_lt (blk_lt (g := gb177) (o := .cells #[.int .i64 a0_0, .int .i64 a0_1, .int .i64 a0_2, .int .i64 a0_3, .int .i64 a0_4, .int .i64 a0_5, .int .i64 a0_6] 52 (0, 0)) (by (with_reducible repeat (first | refine blk_drewN ?_ _ | refine blk_drew ?_ | refine blk_alloc ?_ _)); exact BK177.out)) : gb177 ≠ gb178)); have n6_ := Aside0.mk ((by rw [hg]; exact Nat.ne_of_gt (blk_lt (g := gb177) (o := .cells #[.int .i64 a0_0, .int .i64 a0_1, .int .i64 a0_2, .int .i64 a0_3, .int .i64 a0_4, .int .i64 a0_5, .int .i64 a0_6] 52 (0, 0)) (by (with_reducible repeat (first | refine blk_drewN ?_ _ | refine blk_drew ?_ | refine blk_alloc ?_ _)); exact BK177.out)) : gb178 ≠ gb177)); clear BK177; clear HB; have BK177 := n0_; have HB := n1_; have BK178 := n2_; have GW178 := n3_; have GE178 := n4_; have NB177_178 := n5_; have NB178_177 := n6_; clear n0_ n1_ n2_ n3_ n4_ n5_ n6_; clear hb hbox hg; have hnb18 := NB177_178.out; have hnc18 := NB178_177.out; have hcz19_0 : w17.cell? ⟨gb177, 0, none⟩ = some (.int .i64 a0_0) := (blk_cell BK177.out 0).trans rfl; have hcz19_1 : w17.cell? ⟨gb177, 1, none⟩ = some (.int .i64 a0_1) := (blk_cell BK177.out 1).trans rfl; have hcz19_2 : w17.cell? ⟨gb177, 2, none⟩ = some (.int .i64 a0_2) := (blk_cell BK177.out 2).trans rfl; have hcz19_3 : w17.cell? ⟨gb177, 3, none⟩ = some (.int .i64 a0_3) := (blk_cell BK177.out 3).trans rfl; have hcz19_4 : w17.cell? ⟨gb177, 4, none⟩ = some (.int .i64 a0_4) := (blk_cell BK177.out 4).trans rfl; have hcz19_5 : w17.cell? ⟨gb177, 5, none⟩ = some (.int .i64 a0_5) := (blk_cell BK177.out 5).trans rfl; have hcz19_6 : w17.cell? ⟨gb177, 6, none⟩ = some (.int .i64 a0_6) := (blk_cell BK177.out 6).trans rfl; have hfz19_0 := blk_frozen BK177.out 0; have hfz19_1 := blk_frozen BK177.out 1; have hfz19_2 := blk_frozen BK177.out 2; have hfz19_3 := blk_frozen BK177.out 3; have hfz19_4 := blk_frozen BK177.out 4; have hfz19_5 := blk_frozen BK177.out 5; have hfz19_6 := blk_frozen BK177.out 6) | ((with_reducible refine gate_callee (f := 60) rfl ?_); refine goesL_ (some 5) rfl rfl Try.func60 (by kernel_rfl) rfl #[.agg #[.int .i64 a0_0, .int .i64 a0_1, .int .i64 a0_2, .int .i64 a0_3, .int .i64 a0_4, .int .i64 a0_5, .int .i64 a0_6]] rfl (by (try simp only [List.map_toArray, List.map_cons, List.map_nil]); first | done | rfl | (simp only [List.length_drop, List.length_take]; rfl)) ?_; (with_reducible refine (pumiceref06_RightInode.calls a0_0 a0_1 a0_2 a0_3 a0_4 a0_5 a0_6 true _ A2.out).mono ?_); rintro e w20 ⟨rfl, hb⟩; refine ⟨_, rfl, ?_⟩; have n0_ := Aside0.mk (blk_below (g := gb177) (o := .cells #[.int .i64 a0_0, .int .i64 a0_1, .int .i64 a0_2, .int .i64 a0_3, .int .i64 a0_4, .int .i64 a0_5, .int .i64 a0_6] 52 (0, 0)) (by (with_reducible repeat (first | refine blk_drewN ?_ _ | refine blk_drew ?_ | refine blk_alloc ?_ _)); exact BK177.out) hb); have n1_ := Aside0.mk (blk_below (g := gb178) (o := .cells #[.string (⟨#[]⟩ : ByteArray), .string (⟨#[]⟩ : ByteArray), .bool false] 32 (0, 0)) (by (with_reducible repeat (first | refine blk_drewN ?_ _ | refine blk_drew ?_ | refine blk_alloc ?_ _)); exact BK178.out) hb); have n2_ := Aside0.mk (below_step (by repeat (first | (with_reducible first | exact HB.out | apply below_alloc | apply pw_below_drewN | apply below_drew1 | refine below_set ?_ GE177.out | refine below_set ?_ GE178.out) | exact HB.out)) hb); clear BK177; clear BK178; clear HB; have BK177 := n0_; have BK178 := n1_; have HB := n2_; clear n0_ n1_ n2_; (try clear hb); (try clear hb2); (try clear hk); (try clear hi)))
              have n0_ := Aside0.mk (blk_drew BK177.out)
              have n1_ := Aside0.mk (blk_drew BK178.out)
              have n2_ := Aside0.mk (below_drew1 HB.out)
              clear BK177
              clear BK178
              clear HB
              have BK177 := n0_
              have BK178 := n1_
              have HB := n2_
              clear n0_ n1_ n2_
              refine start_ (n := 29) (S := fun w' => w'.cell? ⟨gb177, 0, none⟩ = some (.int .i64 a0_0) ∧ w'.cell? ⟨gb177, 1, none⟩ = some (.int .i64 a0_1) ∧ w'.cell? ⟨gb177, 2, none⟩ = some (.int .i64 a0_2) ∧ w'.cell? ⟨gb177, 3, none⟩ = some (.int .i64 a0_3) ∧ w'.cell? ⟨gb177, 4, none⟩ = some (.int .i64 a0_4) ∧ w'.cell? ⟨gb177, 5, none⟩ = some (.int .i64 a0_5) ∧ w'.cell? ⟨gb177, 6, none⟩ = some (.int .i64 a0_6)) (ds := []) #[false, false, false, false, false, false, false, false, false, false, false, false, false, false, false, false, false, false, false, false, false, false, false, false, false, false, false, false, false] (by kernel_rfl) rfl rfl ⟨(blk_cell BK177.out 0).trans rfl, (blk_cell BK177.out 1).trans rfl, (blk_cell BK177.out 2).trans rfl, (blk_cell BK177.out 3).trans rfl, (blk_cell BK177.out 4).trans rfl, (blk_cell BK177.out 5).trans rfl, (blk_cell BK177.out 6).trans rfl⟩ (fun hHeld => ?_); refine with_tabW pumiceref06_Inode.tab3 pumiceref06_Inode.bits3 (fun HT_ HW_ => ?_)
              generalize w20.drew = w21 at BK177 BK178 HB hHeld ⊢
              refine pure_ (i := 0) (N := some 8) (v := ?_) (a' := ?_) #[true, false, false, false, false, false, false, false, false, false, false, false, false, false, false, false, false, false, false, false, false, false, false, false, false, false, false, false, false] rfl rfl (any_of HT_.out (by kernel_rfl)) (fun _ _ _ h => h) (Or.inl ⟨by rfl, ?_⟩) ?_ ?_
              rotate_left
              · intro w'
                go_simp
                first | with_reducible rfl | (rw [if_neg (by omega)])
              rotate_left
              · simp only [Act.put, List.setIfInBounds_toArray, List.set_cons_zero, List.set_cons_succ, i64_w, i32_w]
                rfl
              refine pure_ (i := 3) (N := some 11) (v := ?_) (a' := ?_) #[true, false, false, true, false, false, false, false, false, false, false, false, false, false, false, false, false, false, false, false, false, false, false, false, false, false, false, false, false] rfl rfl (any_of HT_.out (by kernel_rfl)) (fun _ _ _ h => h) (Or.inl ⟨by rfl, ?_⟩) ?_ ?_
              rotate_left
              · intro w'
                go_simp
                first | with_reducible rfl | (rw [if_neg (by omega)])
              rotate_left
              · simp only [Act.put, List.setIfInBounds_toArray, List.set_cons_zero, List.set_cons_succ, i64_w, i32_w]
                rfl
              refine pure_ (i := 6) (N := some 14) (v := ?_) (a' := ?_) #[true, false, false, true, false, false, true, false, false, false, false, false, false, false, false, false, false, false, false, false, false, false, false, false, false, false, false, false, false] rfl rfl (any_of HT_.out (by kernel_rfl)) (fun _ _ _ h => h) (Or.inl ⟨by rfl, ?_⟩) ?_ ?_
              rotate_left
              · intro w'
                go_simp
                first | with_reducible rfl | (rw [if_neg (by omega)])
              rotate_left
              · simp only [Act.put, List.setIfInBounds_toArray, List.set_cons_zero, List.set_cons_succ, i64_w, i32_w]
                rfl
              refine pure_ (i := 10) (N := some 18) (v := ?_) (a' := ?_) #[true, false, false, true, false, false, true, false, false, false, true, false, false, false, false, false, false, false, false, false, false, false, false, false, false, false, false, false, false] rfl rfl (any_of HT_.out (by kernel_rfl)) (fun _ _ _ h => h) (Or.inl ⟨by rfl, ?_⟩) ?_ ?_
              rotate_left
              · intro w'
                go_simp
                first | with_reducible rfl | (rw [if_neg (by omega)])
              rotate_left
              · simp only [Act.put, List.setIfInBounds_toArray, List.set_cons_zero, List.set_cons_succ, i64_w, i32_w]
                rfl
              refine pure_ (i := 14) (N := some 22) (v := ?_) (a' := ?_) #[true, false, false, true, false, false, true, false, false, false, true, false, false, false, true, false, false, false, false, false, false, false, false, false, false, false, false, false, false] rfl rfl (any_of HT_.out (by kernel_rfl)) (fun _ _ _ h => h) (Or.inl ⟨by rfl, ?_⟩) ?_ ?_
              rotate_left
              · intro w'
                go_simp
                first | with_reducible rfl | (rw [if_neg (by omega)])
              rotate_left
              · simp only [Act.put, List.setIfInBounds_toArray, List.set_cons_zero, List.set_cons_succ, i64_w, i32_w]
                rfl
              refine pure_ (i := 18) (N := some 26) (v := ?_) (a' := ?_) #[true, false, false, true, false, false, true, false, false, false, true, false, false, false, true, false, false, false, true, false, false, false, false, false, false, false, false, false, false] rfl rfl (any_of HT_.out (by kernel_rfl)) (fun _ _ _ h => h) (Or.inl ⟨by rfl, ?_⟩) ?_ ?_
              rotate_left
              · intro w'
                go_simp
                first | with_reducible rfl | (rw [if_neg (by omega)])
              rotate_left
              · simp only [Act.put, List.setIfInBounds_toArray, List.set_cons_zero, List.set_cons_succ, i64_w, i32_w]
                rfl
              refine pure_ (i := 22) (N := some 30) (v := ?_) (a' := ?_) #[true, false, false, true, false, false, true, false, false, false, true, false, false, false, true, false, false, false, true, false, false, false, true, false, false, false, false, false, false] rfl rfl (any_of HT_.out (by kernel_rfl)) (fun _ _ _ h => h) (Or.inl ⟨by rfl, ?_⟩) ?_ ?_
              rotate_left
              · intro w'
                go_simp
                first | with_reducible rfl | (rw [if_neg (by omega)])
              rotate_left
              · simp only [Act.put, List.setIfInBounds_toArray, List.set_cons_zero, List.set_cons_succ, i64_w, i32_w]
                rfl
              refine take_ (i := 1) (N := some 9) (v := ?_) (a' := ?_) #[true, true, false, true, false, false, true, false, false, false, true, false, false, false, true, false, false, false, true, false, false, false, true, false, false, false, false, false, false] rfl rfl (take_ofW HT_.out HW_.out (by kernel_rfl)) (fun _ _ _ h => h) (Or.inl ⟨by rfl, ?_⟩) hHeld ?_ ?_
              rotate_left
              · rintro w' ⟨s0, s1, s2, s3, s4, s5, s6⟩
                go_simp
                first | with_reducible rfl | (rw [if_neg (by omega)])
              rotate_left
              · simp only [Act.put, List.setIfInBounds_toArray, List.set_cons_zero, List.set_cons_succ, i64_w, i32_w]
                rfl
              refine take_ (i := 4) (N := some 12) (v := ?_) (a' := ?_) #[true, true, false, true, true, false, true, false, false, false, true, false, false, false, true, false, false, false, true, false, false, false, true, false, false, false, false, false, false] rfl rfl (take_ofW HT_.out HW_.out (by kernel_rfl)) (fun _ _ _ h => h) (Or.inl ⟨by rfl, ?_⟩) hHeld ?_ ?_
              rotate_left
              · rintro w' ⟨s0, s1, s2, s3, s4, s5, s6⟩
                go_simp
                first | with_reducible rfl | (rw [if_neg (by omega)])
              rotate_left
              · simp only [Act.put, List.setIfInBounds_toArray, List.set_cons_zero, List.set_cons_succ, i64_w, i32_w]
                rfl
              refine take_ (i := 7) (N := some 15) (v := ?_) (a' := ?_) #[true, true, false, true, true, false, true, true, false, false, true, false, false, false, true, false, false, false, true, false, false, false, true, false, false, false, false, false, false] rfl rfl (take_ofW HT_.out HW_.out (by kernel_rfl)) (fun _ _ _ h => h) (Or.inl ⟨by rfl, ?_⟩) hHeld ?_ ?_
              rotate_left
              · rintro w' ⟨s0, s1, s2, s3, s4, s5, s6⟩
                go_simp
                first | with_reducible rfl | (rw [if_neg (by omega)])
              rotate_left
              · simp only [Act.put, List.setIfInBounds_toArray, List.set_cons_zero, List.set_cons_succ, i64_w, i32_w]
                rfl
              refine take_ (i := 11) (N := some 19) (v := ?_) (a' := ?_) #[true, true, false, true, true, false, true, true, false, false, true, true, false, false, true, false, false, false, true, false, false, false, true, false, false, false, false, false, false] rfl rfl (take_ofW HT_.out HW_.out (by kernel_rfl)) (fun _ _ _ h => h) (Or.inl ⟨by rfl, ?_⟩) hHeld ?_ ?_
              rotate_left
              · rintro w' ⟨s0, s1, s2, s3, s4, s5, s6⟩
                go_simp
                first | with_reducible rfl | (rw [if_neg (by omega)])
              rotate_left
              · simp only [Act.put, List.setIfInBounds_toArray, List.set_cons_zero, List.set_cons_succ, i64_w, i32_w]
                rfl
              refine take_ (i := 15) (N := some 23) (v := ?_) (a' := ?_) #[true, true, false, true, true, false, true, true, false, false, true, true, false, false, true, true, false, false, true, false, false, false, true, false, false, false, false, false, false] rfl rfl (take_ofW HT_.out HW_.out (by kernel_rfl)) (fun _ _ _ h => h) (Or.inl ⟨by rfl, ?_⟩) hHeld ?_ ?_
              rotate_left
              · rintro w' ⟨s0, s1, s2, s3, s4, s5, s6⟩
                go_simp
                first | with_reducible rfl | (rw [if_neg (by omega)])
              rotate_left
              · simp only [Act.put, List.setIfInBounds_toArray, List.set_cons_zero, List.set_cons_succ, i64_w, i32_w]
                rfl
              refine take_ (i := 19) (N := some 27) (v := ?_) (a' := ?_) #[true, true, false, true, true, false, true, true, false, false, true, true, false, false, true, true, false, false, true, true, false, false, true, false, false, false, false, false, false] rfl rfl (take_ofW HT_.out HW_.out (by kernel_rfl)) (fun _ _ _ h => h) (Or.inl ⟨by rfl, ?_⟩) hHeld ?_ ?_
              rotate_left
              · rintro w' ⟨s0, s1, s2, s3, s4, s5, s6⟩
                go_simp
                first | with_reducible rfl | (rw [if_neg (by omega)])
              rotate_left
              · simp only [Act.put, List.setIfInBounds_toArray, List.set_cons_zero, List.set_cons_succ, i64_w, i32_w]
                rfl
              refine take_ (i := 23) (N := some 31) (v := ?_) (a' := ?_) #[true, true, false, true, true, false, true, true, false, false, true, true, false, false, true, true, false, false, true, true, false, false, true, true, false, false, false, false, false] rfl rfl (take_ofW HT_.out HW_.out (by kernel_rfl)) (fun _ _ _ h => h) (Or.inl ⟨by rfl, ?_⟩) hHeld ?_ ?_
              rotate_left
              · rintro w' ⟨s0, s1, s2, s3, s4, s5, s6⟩
                go_simp
                first | with_reducible rfl | (rw [if_neg (by omega)])
              rotate_left
              · simp only [Act.put, List.setIfInBounds_toArray, List.set_cons_zero, List.set_cons_succ, i64_w, i32_w]
                rfl
              refine one_ (i := 2) (N := some 10) #[true, true, true, true, true, false, true, true, false, false, true, true, false, false, true, true, false, false, true, true, false, false, true, true, false, false, false, false, false] rfl rfl (one_of HT_.out (by kernel_rfl)) (by decide) (fun K hK => ?_)
              refine goes_ Try.func61 (by kernel_rfl) rfl #[.int .i64 a0_0] (by rfl) rfl rfl (by (try simp only [List.map_toArray, List.map_cons, List.map_nil]); first | done | rfl | (simp only [List.length_drop, List.length_take]; rfl)) ?_
              with_reducible refine (pumiceref06_InodeKey.calls a0_0 t180 _ A4.out).mono ?_
              rintro e w22 ⟨rfl, hb⟩
              refine ⟨_, rfl, ?_⟩
              have n0_ := Aside0.mk (blk_below (g := gb177) (o := .cells #[.int .i64 a0_0, .int .i64 a0_1, .int .i64 a0_2, .int .i64 a0_3, .int .i64 a0_4, .int .i64 a0_5, .int .i64 a0_6] 52 (0, 0)) (by (with_reducible repeat (first | refine blk_drewN ?_ _ | refine blk_drew ?_ | refine blk_alloc ?_ _)); exact BK177.out) hb)
              have n1_ := Aside0.mk (blk_below (g := gb178) (o := .cells #[.string (⟨#[]⟩ : ByteArray), .string (⟨#[]⟩ : ByteArray), .bool false] 32 (0, 0)) (by (with_reducible repeat (first | refine blk_drewN ?_ _ | refine blk_drew ?_ | refine blk_alloc ?_ _)); exact BK178.out) hb)
              have n2_ := Aside0.mk (below_step (by repeat (first | (with_reducible first | exact HB.out | apply below_alloc | apply pw_below_drewN | apply below_drew1 | refine below_set ?_ GE177.out | refine below_set ?_ GE178.out) | exact HB.out)) hb)
              clear BK177
              clear BK178
              clear HB
              have BK177 := n0_
              have BK178 := n1_
              have HB := n2_
              clear n0_ n1_ n2_
              (try clear hb)
              (try clear hb2)
              (try clear hk)
              (try clear hi)
              refine hK.out _ _ ⟨(blk_cell BK177.out 0).trans rfl, (blk_cell BK177.out 1).trans rfl, (blk_cell BK177.out 2).trans rfl, (blk_cell BK177.out 3).trans rfl, (blk_cell BK177.out 4).trans rfl, (blk_cell BK177.out 5).trans rfl, (blk_cell BK177.out 6).trans rfl⟩ (fun hHeld => ?_)
              clear hK K
              refine norm_ (a' := ?_) ?_ ?_
              rotate_left
              · show Act.put _ (some 10) _ = _
                simp only [Act.put, List.setIfInBounds_toArray, List.set_cons_zero, List.set_cons_succ, i64_w, i32_w]
                rfl
              refine one_ (i := 5) (N := some 13) #[true, true, true, true, true, true, true, true, false, false, true, true, false, false, true, true, false, false, true, true, false, false, true, true, false, false, false, false, false] rfl rfl (one_of HT_.out (by kernel_rfl)) (by decide) (fun K hK => ?_)
              refine goes_ Try.func47 (by kernel_rfl) rfl #[.int .i64 a0_1, .int .i64 1] (by rfl) rfl rfl (by (try simp only [List.map_toArray, List.map_cons, List.map_nil]); first | done | rfl | (simp only [List.length_drop, List.length_take]; rfl)) ?_
              with_reducible refine (pumiceref06_put.calls k a0_1 1 t181 _ A5.out).mono ?_
              rintro e w23 ⟨rfl, hb⟩
              refine ⟨_, rfl, ?_⟩
              have n0_ := Aside0.mk (blk_below (g := gb177) (o := .cells #[.int .i64 a0_0, .int .i64 a0_1, .int .i64 a0_2, .int .i64 a0_3, .int .i64 a0_4, .int .i64 a0_5, .int .i64 a0_6] 52 (0, 0)) (by (with_reducible repeat (first | refine blk_drewN ?_ _ | refine blk_drew ?_ | refine blk_alloc ?_ _)); exact BK177.out) hb)
              have n1_ := Aside0.mk (blk_below (g := gb178) (o := .cells #[.string (⟨#[]⟩ : ByteArray), .string (⟨#[]⟩ : ByteArray), .bool false] 32 (0, 0)) (by (with_reducible repeat (first | refine blk_drewN ?_ _ | refine blk_drew ?_ | refine blk_alloc ?_ _)); exact BK178.out) hb)
              have n2_ := Aside0.mk (below_step (by repeat (first | (with_reducible first | exact HB.out | apply below_alloc | apply pw_below_drewN | apply below_drew1 | refine below_set ?_ GE177.out | refine below_set ?_ GE178.out) | exact HB.out)) hb)
              clear BK177
              clear BK178
              clear HB
              have BK177 := n0_
              have BK178 := n1_
              have HB := n2_
              clear n0_ n1_ n2_
              (try clear hb)
              (try clear hb2)
              (try clear hk)
              (try clear hi)
              refine hK.out _ _ ⟨(blk_cell BK177.out 0).trans rfl, (blk_cell BK177.out 1).trans rfl, (blk_cell BK177.out 2).trans rfl, (blk_cell BK177.out 3).trans rfl, (blk_cell BK177.out 4).trans rfl, (blk_cell BK177.out 5).trans rfl, (blk_cell BK177.out 6).trans rfl⟩ (fun hHeld => ?_)
              clear hK K
              refine norm_ (a' := ?_) ?_ ?_
              rotate_left
              · show Act.put _ (some 13) _ = _
                simp only [Act.put, List.setIfInBounds_toArray, List.set_cons_zero, List.set_cons_succ, i64_w, i32_w]
                rfl
              refine one_ (i := 8) (N := some 16) #[true, true, true, true, true, true, true, true, true, false, true, true, false, false, true, true, false, false, true, true, false, false, true, true, false, false, false, false, false] rfl rfl (one_of HT_.out (by kernel_rfl)) (by decide) (fun K hK => ?_)
              refine goes_ Try.func47 (by kernel_rfl) rfl #[.int .i64 a0_2, .int .i64 2] (by rfl) rfl rfl (by (try simp only [List.map_toArray, List.map_cons, List.map_nil]); first | done | rfl | (simp only [List.length_drop, List.length_take]; rfl)) ?_
              with_reducible refine (pumiceref06_put.calls k a0_2 2 t182 _ A6.out).mono ?_
              rintro e w24 ⟨rfl, hb⟩
              refine ⟨_, rfl, ?_⟩
              have n0_ := Aside0.mk (blk_below (g := gb177) (o := .cells #[.int .i64 a0_0, .int .i64 a0_1, .int .i64 a0_2, .int .i64 a0_3, .int .i64 a0_4, .int .i64 a0_5, .int .i64 a0_6] 52 (0, 0)) (by (with_reducible repeat (first | refine blk_drewN ?_ _ | refine blk_drew ?_ | refine blk_alloc ?_ _)); exact BK177.out) hb)
              have n1_ := Aside0.mk (blk_below (g := gb178) (o := .cells #[.string (⟨#[]⟩ : ByteArray), .string (⟨#[]⟩ : ByteArray), .bool false] 32 (0, 0)) (by (with_reducible repeat (first | refine blk_drewN ?_ _ | refine blk_drew ?_ | refine blk_alloc ?_ _)); exact BK178.out) hb)
              have n2_ := Aside0.mk (below_step (by repeat (first | (with_reducible first | exact HB.out | apply below_alloc | apply pw_below_drewN | apply below_drew1 | refine below_set ?_ GE177.out | refine below_set ?_ GE178.out) | exact HB.out)) hb)
              clear BK177
              clear BK178
              clear HB
              have BK177 := n0_
              have BK178 := n1_
              have HB := n2_
              clear n0_ n1_ n2_
              (try clear hb)
              (try clear hb2)
              (try clear hk)
              (try clear hi)
              refine hK.out _ _ ⟨(blk_cell BK177.out 0).trans rfl, (blk_cell BK177.out 1).trans rfl, (blk_cell BK177.out 2).trans rfl, (blk_cell BK177.out 3).trans rfl, (blk_cell BK177.out 4).trans rfl, (blk_cell BK177.out 5).trans rfl, (blk_cell BK177.out 6).trans rfl⟩ (fun hHeld => ?_)
              clear hK K
              refine norm_ (a' := ?_) ?_ ?_
              rotate_left
              · show Act.put _ (some 16) _ = _
                simp only [Act.put, List.setIfInBounds_toArray, List.set_cons_zero, List.set_cons_succ, i64_w, i32_w]
                rfl
              refine pure_ (i := 9) (N := some 17) (v := ?_) (a' := ?_) #[true, true, true, true, true, true, true, true, true, true, true, true, false, false, true, true, false, false, true, true, false, false, true, true, false, false, false, false, false] rfl rfl (any_of HT_.out (by kernel_rfl)) (fun _ _ _ h => h) (Or.inl ⟨by rfl, ?_⟩) ?_ ?_
              rotate_left
              · intro w'
                go_simp
                first | with_reducible rfl | (rw [if_neg (by omega)])
              rotate_left
              · simp only [Act.put, List.setIfInBounds_toArray, List.set_cons_zero, List.set_cons_succ, i64_w, i32_w]
                rfl
              refine one_ (i := 12) (N := some 20) #[true, true, true, true, true, true, true, true, true, true, true, true, true, false, true, true, false, false, true, true, false, false, true, true, false, false, false, false, false] rfl rfl (one_of HT_.out (by kernel_rfl)) (by decide) (fun K hK => ?_)
              refine goes_ Try.func47 (by kernel_rfl) rfl #[.int .i64 a0_3, .int .i64 2] (by rfl) rfl rfl (by (try simp only [List.map_toArray, List.map_cons, List.map_nil]); first | done | rfl | (simp only [List.length_drop, List.length_take]; rfl)) ?_
              with_reducible refine (pumiceref06_put.calls k a0_3 2 t183 _ A8.out).mono ?_
              rintro e w25 ⟨rfl, hb⟩
              refine ⟨_, rfl, ?_⟩
              have n0_ := Aside0.mk (blk_below (g := gb177) (o := .cells #[.int .i64 a0_0, .int .i64 a0_1, .int .i64 a0_2, .int .i64 a0_3, .int .i64 a0_4, .int .i64 a0_5, .int .i64 a0_6] 52 (0, 0)) (by (with_reducible repeat (first | refine blk_drewN ?_ _ | refine blk_drew ?_ | refine blk_alloc ?_ _)); exact BK177.out) hb)
              have n1_ := Aside0.mk (blk_below (g := gb178) (o := .cells #[.string (⟨#[]⟩ : ByteArray), .string (⟨#[]⟩ : ByteArray), .bool false] 32 (0, 0)) (by (with_reducible repeat (first | refine blk_drewN ?_ _ | refine blk_drew ?_ | refine blk_alloc ?_ _)); exact BK178.out) hb)
              have n2_ := Aside0.mk (below_step (by repeat (first | (with_reducible first | exact HB.out | apply below_alloc | apply pw_below_drewN | apply below_drew1 | refine below_set ?_ GE177.out | refine below_set ?_ GE178.out) | exact HB.out)) hb)
              clear BK177
              clear BK178
              clear HB
              have BK177 := n0_
              have BK178 := n1_
              have HB := n2_
              clear n0_ n1_ n2_
              (try clear hb)
              (try clear hb2)
              (try clear hk)
              (try clear hi)
              refine hK.out _ _ ⟨(blk_cell BK177.out 0).trans rfl, (blk_cell BK177.out 1).trans rfl, (blk_cell BK177.out 2).trans rfl, (blk_cell BK177.out 3).trans rfl, (blk_cell BK177.out 4).trans rfl, (blk_cell BK177.out 5).trans rfl, (blk_cell BK177.out 6).trans rfl⟩ (fun hHeld => ?_)
              clear hK K
              refine norm_ (a' := ?_) ?_ ?_
              rotate_left
              · show Act.put _ (some 20) _ = _
                simp only [Act.put, List.setIfInBounds_toArray, List.set_cons_zero, List.set_cons_succ, i64_w, i32_w]
                rfl
              refine pure_ (i := 13) (N := some 21) (v := ?_) (a' := ?_) #[true, true, true, true, true, true, true, true, true, true, true, true, true, true, true, true, false, false, true, true, false, false, true, true, false, false, false, false, false] rfl rfl (any_of HT_.out (by kernel_rfl)) (fun _ _ _ h => h) (Or.inl ⟨by rfl, ?_⟩) ?_ ?_
              rotate_left
              · intro w'
                go_simp
                first | with_reducible rfl | (rw [if_neg (by omega)])
              rotate_left
              · simp only [Act.put, List.setIfInBounds_toArray, List.set_cons_zero, List.set_cons_succ, i64_w, i32_w]
                rfl
              refine one_ (i := 16) (N := some 24) #[true, true, true, true, true, true, true, true, true, true, true, true, true, true, true, true, true, false, true, true, false, false, true, true, false, false, false, false, false] rfl rfl (one_of HT_.out (by kernel_rfl)) (by decide) (fun K hK => ?_)
              refine goes_ Try.func47 (by kernel_rfl) rfl #[.int .i64 a0_4, .int .i64 2] (by rfl) rfl rfl (by (try simp only [List.map_toArray, List.map_cons, List.map_nil]); first | done | rfl | (simp only [List.length_drop, List.length_take]; rfl)) ?_
              with_reducible refine (pumiceref06_put.calls k a0_4 2 t184 _ A10.out).mono ?_
              rintro e w26 ⟨rfl, hb⟩
              refine ⟨_, rfl, ?_⟩
              have n0_ := Aside0.mk (blk_below (g := gb177) (o := .cells #[.int .i64 a0_0, .int .i64 a0_1, .int .i64 a0_2, .int .i64 a0_3, .int .i64 a0_4, .int .i64 a0_5, .int .i64 a0_6] 52 (0, 0)) (by (with_reducible repeat (first | refine blk_drewN ?_ _ | refine blk_drew ?_ | refine blk_alloc ?_ _)); exact BK177.out) hb)
              have n1_ := Aside0.mk (blk_below (g := gb178) (o := .cells #[.string (⟨#[]⟩ : ByteArray), .string (⟨#[]⟩ : ByteArray), .bool false] 32 (0, 0)) (by (with_reducible repeat (first | refine blk_drewN ?_ _ | refine blk_drew ?_ | refine blk_alloc ?_ _)); exact BK178.out) hb)
              have n2_ := Aside0.mk (below_step (by repeat (first | (with_reducible first | exact HB.out | apply below_alloc | apply pw_below_drewN | apply below_drew1 | refine below_set ?_ GE177.out | refine below_set ?_ GE178.out) | exact HB.out)) hb)
              clear BK177
              clear BK178
              clear HB
              have BK177 := n0_
              have BK178 := n1_
              have HB := n2_
              clear n0_ n1_ n2_
              (try clear hb)
              (try clear hb2)
              (try clear hk)
              (try clear hi)
              refine hK.out _ _ ⟨(blk_cell BK177.out 0).trans rfl, (blk_cell BK177.out 1).trans rfl, (blk_cell BK177.out 2).trans rfl, (blk_cell BK177.out 3).trans rfl, (blk_cell BK177.out 4).trans rfl, (blk_cell BK177.out 5).trans rfl, (blk_cell BK177.out 6).trans rfl⟩ (fun hHeld => ?_)
              clear hK K
              refine norm_ (a' := ?_) ?_ ?_
              rotate_left
              · show Act.put _ (some 24) _ = _
                simp only [Act.put, List.setIfInBounds_toArray, List.set_cons_zero, List.set_cons_succ, i64_w, i32_w]
                rfl
              refine pure_ (i := 17) (N := some 25) (v := ?_) (a' := ?_) #[true, true, true, true, true, true, true, true, true, true, true, true, true, true, true, true, true, true, true, true, false, false, true, true, false, false, false, false, false] rfl rfl (any_of HT_.out (by kernel_rfl)) (fun _ _ _ h => h) (Or.inl ⟨by rfl, ?_⟩) ?_ ?_
              rotate_left
              · intro w'
                go_simp
                first | with_reducible rfl | (rw [if_neg (by omega)])
              rotate_left
              · simp only [Act.put, List.setIfInBounds_toArray, List.set_cons_zero, List.set_cons_succ, i64_w, i32_w]
                rfl
              refine one_ (i := 20) (N := some 28) #[true, true, true, true, true, true, true, true, true, true, true, true, true, true, true, true, true, true, true, true, true, false, true, true, false, false, false, false, false] rfl rfl (one_of HT_.out (by kernel_rfl)) (by decide) (fun K hK => ?_)
              refine goes_ Try.func47 (by kernel_rfl) rfl #[.int .i64 a0_5, .int .i64 2] (by rfl) rfl rfl (by (try simp only [List.map_toArray, List.map_cons, List.map_nil]); first | done | rfl | (simp only [List.length_drop, List.length_take]; rfl)) ?_
              with_reducible refine (pumiceref06_put.calls k a0_5 2 t185 _ A12.out).mono ?_
              rintro e w27 ⟨rfl, hb⟩
              refine ⟨_, rfl, ?_⟩
              have n0_ := Aside0.mk (blk_below (g := gb177) (o := .cells #[.int .i64 a0_0, .int .i64 a0_1, .int .i64 a0_2, .int .i64 a0_3, .int .i64 a0_4, .int .i64 a0_5, .int .i64 a0_6] 52 (0, 0)) (by (with_reducible repeat (first | refine blk_drewN ?_ _ | refine blk_drew ?_ | refine blk_alloc ?_ _)); exact BK177.out) hb)
              have n1_ := Aside0.mk (blk_below (g := gb178) (o := .cells #[.string (⟨#[]⟩ : ByteArray), .string (⟨#[]⟩ : ByteArray), .bool false] 32 (0, 0)) (by (with_reducible repeat (first | refine blk_drewN ?_ _ | refine blk_drew ?_ | refine blk_alloc ?_ _)); exact BK178.out) hb)
              have n2_ := Aside0.mk (below_step (by repeat (first | (with_reducible first | exact HB.out | apply below_alloc | apply pw_below_drewN | apply below_drew1 | refine below_set ?_ GE177.out | refine below_set ?_ GE178.out) | exact HB.out)) hb)
              clear BK177
              clear BK178
              clear HB
              have BK177 := n0_
              have BK178 := n1_
              have HB := n2_
              clear n0_ n1_ n2_
              (try clear hb)
              (try clear hb2)
              (try clear hk)
              (try clear hi)
              refine hK.out _ _ ⟨(blk_cell BK177.out 0).trans rfl, (blk_cell BK177.out 1).trans rfl, (blk_cell BK177.out 2).trans rfl, (blk_cell BK177.out 3).trans rfl, (blk_cell BK177.out 4).trans rfl, (blk_cell BK177.out 5).trans rfl, (blk_cell BK177.out 6).trans rfl⟩ (fun hHeld => ?_)
              clear hK K
              refine norm_ (a' := ?_) ?_ ?_
              rotate_left
              · show Act.put _ (some 28) _ = _
                simp only [Act.put, List.setIfInBounds_toArray, List.set_cons_zero, List.set_cons_succ, i64_w, i32_w]
                rfl
              refine pure_ (i := 21) (N := some 29) (v := ?_) (a' := ?_) #[true, true, true, true, true, true, true, true, true, true, true, true, true, true, true, true, true, true, true, true, true, true, true, true, false, false, false, false, false] rfl rfl (any_of HT_.out (by kernel_rfl)) (fun _ _ _ h => h) (Or.inl ⟨by rfl, ?_⟩) ?_ ?_
              rotate_left
              · intro w'
                go_simp
                first | with_reducible rfl | (rw [if_neg (by omega)])
              rotate_left
              · simp only [Act.put, List.setIfInBounds_toArray, List.set_cons_zero, List.set_cons_succ, i64_w, i32_w]
                rfl
              refine one_ (i := 24) (N := some 32) #[true, true, true, true, true, true, true, true, true, true, true, true, true, true, true, true, true, true, true, true, true, true, true, true, true, false, false, false, false] rfl rfl (one_of HT_.out (by kernel_rfl)) (by decide) (fun K hK => ?_)
              refine goes_ Try.func47 (by kernel_rfl) rfl #[.int .i64 a0_6, .int .i64 4] (by rfl) rfl rfl (by (try simp only [List.map_toArray, List.map_cons, List.map_nil]); first | done | rfl | (simp only [List.length_drop, List.length_take]; rfl)) ?_
              with_reducible refine (pumiceref06_put.calls k a0_6 4 t186 _ A14.out).mono ?_
              rintro e w28 ⟨rfl, hb⟩
              refine ⟨_, rfl, ?_⟩
              have n0_ := Aside0.mk (blk_below (g := gb177) (o := .cells #[.int .i64 a0_0, .int .i64 a0_1, .int .i64 a0_2, .int .i64 a0_3, .int .i64 a0_4, .int .i64 a0_5, .int .i64 a0_6] 52 (0, 0)) (by (with_reducible repeat (first | refine blk_drewN ?_ _ | refine blk_drew ?_ | refine blk_alloc ?_ _)); exact BK177.out) hb)
              have n1_ := Aside0.mk (blk_below (g := gb178) (o := .cells #[.string (⟨#[]⟩ : ByteArray), .string (⟨#[]⟩ : ByteArray), .bool false] 32 (0, 0)) (by (with_reducible repeat (first | refine blk_drewN ?_ _ | refine blk_drew ?_ | refine blk_alloc ?_ _)); exact BK178.out) hb)
              have n2_ := Aside0.mk (below_step (by repeat (first | (with_reducible first | exact HB.out | apply below_alloc | apply pw_below_drewN | apply below_drew1 | refine below_set ?_ GE177.out | refine below_set ?_ GE178.out) | exact HB.out)) hb)
              clear BK177
              clear BK178
              clear HB
              have BK177 := n0_
              have BK178 := n1_
              have HB := n2_
              clear n0_ n1_ n2_
              (try clear hb)
              (try clear hb2)
              (try clear hk)
              (try clear hi)
              refine hK.out _ _ ⟨(blk_cell BK177.out 0).trans rfl, (blk_cell BK177.out 1).trans rfl, (blk_cell BK177.out 2).trans rfl, (blk_cell BK177.out 3).trans rfl, (blk_cell BK177.out 4).trans rfl, (blk_cell BK177.out 5).trans rfl, (blk_cell BK177.out 6).trans rfl⟩ (fun hHeld => ?_)
              clear hK K
              refine norm_ (a' := ?_) ?_ ?_
              rotate_left
              · show Act.put _ (some 32) _ = _
                simp only [Act.put, List.setIfInBounds_toArray, List.set_cons_zero, List.set_cons_succ, i64_w, i32_w]
                rfl
              refine pure_ (i := 25) (N := some 33) (v := ?_) (a' := ?_) #[true, true, true, true, true, true, true, true, true, true, true, true, true, true, true, true, true, true, true, true, true, true, true, true, true, true, false, false, false] rfl rfl (any_of HT_.out (by kernel_rfl)) (fun _ _ _ h => h) (Or.inl ⟨by rfl, ?_⟩) ?_ ?_
              rotate_left
              · intro w'
                go_simp
                first | with_reducible rfl | (rw [if_neg (by omega)])
              rotate_left
              · simp only [Act.put, List.setIfInBounds_toArray, List.set_cons_zero, List.set_cons_succ, i64_w, i32_w]
                rfl
              refine pure_ (i := 26) (N := some 34) (v := ?_) (a' := ?_) #[true, true, true, true, true, true, true, true, true, true, true, true, true, true, true, true, true, true, true, true, true, true, true, true, true, true, true, false, false] rfl rfl (any_of HT_.out (by kernel_rfl)) (fun _ _ _ h => h) (Or.inl ⟨by rfl, ?_⟩) ?_ ?_
              rotate_left
              · intro w'
                go_simp
                first | with_reducible rfl | (rw [if_neg (by omega)])
              rotate_left
              · simp only [Act.put, List.setIfInBounds_toArray, List.set_cons_zero, List.set_cons_succ, i64_w, i32_w]
                rfl
              refine one_ (i := 27) (N := none) #[true, true, true, true, true, true, true, true, true, true, true, true, true, true, true, true, true, true, true, true, true, true, true, true, true, true, true, true, false] rfl rfl (one_of HT_.out (by kernel_rfl)) (by decide) (fun K hK => ?_)
              have hs29 : w28.cell? ⟨gb178, 0, none⟩ = some (.string (⟨#[]⟩ : ByteArray)) := (blk_cell BK178.out 0).trans rfl
              have hfs29 := blk_frozen BK178.out 0
              have hns29_0 := NB177_178.out
              have hms29_0 := NB178_177.out
              have hs30 : w28.cell? ⟨gb178, 1, none⟩ = some (.string (⟨#[]⟩ : ByteArray)) := (blk_cell BK178.out 1).trans rfl
              have hfs30 := blk_frozen BK178.out 1
              have hns30_0 := NB177_178.out
              have hms30_0 := NB178_177.out
              have hs31 : w28.cell? ⟨gb178, 2, none⟩ = some (.bool false) := (blk_cell BK178.out 2).trans rfl
              have hfs31 := blk_frozen BK178.out 2
              have hns31_0 := NB177_178.out
              have hms31_0 := NB178_177.out
              refine skip_ (w1 := ?_) (by rfl) rfl ?_ ?_
              rotate_left
              · go_simp
                rfl
              refine hK.out _ _ ⟨((cell_far (p := ⟨gb178, _, none⟩) NB177_178.out _).trans (((cell_far (p := ⟨gb178, _, none⟩) NB177_178.out _).trans (((cell_far (p := ⟨gb178, _, none⟩) NB177_178.out _).trans (hHeld.1)))))), ((cell_far (p := ⟨gb178, _, none⟩) NB177_178.out _).trans (((cell_far (p := ⟨gb178, _, none⟩) NB177_178.out _).trans (((cell_far (p := ⟨gb178, _, none⟩) NB177_178.out _).trans (hHeld.2.1)))))), ((cell_far (p := ⟨gb178, _, none⟩) NB177_178.out _).trans (((cell_far (p := ⟨gb178, _, none⟩) NB177_178.out _).trans (((cell_far (p := ⟨gb178, _, none⟩) NB177_178.out _).trans (hHeld.2.2.1)))))), ((cell_far (p := ⟨gb178, _, none⟩) NB177_178.out _).trans (((cell_far (p := ⟨gb178, _, none⟩) NB177_178.out _).trans (((cell_far (p := ⟨gb178, _, none⟩) NB177_178.out _).trans (hHeld.2.2.2.1)))))), ((cell_far (p := ⟨gb178, _, none⟩) NB177_178.out _).trans (((cell_far (p := ⟨gb178, _, none⟩) NB177_178.out _).trans (((cell_far (p := ⟨gb178, _, none⟩) NB177_178.out _).trans (hHeld.2.2.2.2.1)))))), ((cell_far (p := ⟨gb178, _, none⟩) NB177_178.out _).trans (((cell_far (p := ⟨gb178, _, none⟩) NB177_178.out _).trans (((cell_far (p := ⟨gb178, _, none⟩) NB177_178.out _).trans (hHeld.2.2.2.2.2.1)))))), ((cell_far (p := ⟨gb178, _, none⟩) NB177_178.out _).trans (((cell_far (p := ⟨gb178, _, none⟩) NB177_178.out _).trans (((cell_far (p := ⟨gb178, _, none⟩) NB177_178.out _).trans (hHeld.2.2.2.2.2.2))))))⟩ (fun hHeld => ?_)
              clear hK K
              refine pure_ (i := 28) (N := some 3) (v := ?_) (a' := ?_) #[true, true, true, true, true, true, true, true, true, true, true, true, true, true, true, true, true, true, true, true, true, true, true, true, true, true, true, true, true] rfl rfl (any_of HT_.out (by kernel_rfl)) (fun _ _ _ h => h) (Or.inl ⟨by rfl, ?_⟩) ?_ ?_
              rotate_left
              · intro w'
                go_simp
                first | with_reducible rfl | (rw [if_neg (by omega)])
              rotate_left
              · simp only [Act.put, List.setIfInBounds_toArray, List.set_cons_zero, List.set_cons_succ, i64_w, i32_w]
                rfl
              refine done_ (done_of HT_.out (by kernel_rfl)) ?_
              try go_wp2
              refine bodyPost_ret (results_ct rfl _ _ gb178 32 #[.string t180, .string (((((t181 ++ t182) ++ t183) ++ t184) ++ t185) ++ t186), .bool false] (0, 0) _ rfl (by (with_reducible repeat (first | refine blk_drewN ?_ _ | refine blk_drew ?_ | refine blk_alloc ?_ _)); refine blk_put (cs := #[.string t180, .string (((((t181 ++ t182) ++ t183) ++ t184) ++ t185) ++ t186), .bool false]) ?_ 2 _ rfl; (with_reducible repeat (first | refine blk_drewN ?_ _ | refine blk_drew ?_ | refine blk_alloc ?_ _)); refine blk_put (cs := #[.string t180, .string (⟨#[]⟩ : ByteArray), .bool false]) ?_ 1 _ rfl; (with_reducible repeat (first | refine blk_drewN ?_ _ | refine blk_drew ?_ | refine blk_alloc ?_ _)); refine blk_put (cs := #[.string (⟨#[]⟩ : ByteArray), .string (⟨#[]⟩ : ByteArray), .bool false]) ?_ 0 _ rfl; (with_reducible repeat (first | refine blk_drewN ?_ _ | refine blk_drew ?_ | refine blk_alloc ?_ _)); exact BK178.out) Try.underlying32 rfl (by kernel_rfl)) rfl ?_
              exact ⟨by first | rfl | exact isEmpty_bne_ _ | (simp [errW_none, errW_some] <;> rfl) | (simp [*, errW_none, errW_some] <;> rfl), by repeat (first | (with_reducible first | exact HB.out | apply below_alloc | apply pw_below_drewN | apply below_drew1 | refine below_set ?_ GE177.out | refine below_set ?_ GE178.out) | exact HB.out)⟩
            · rw [if_neg c15] at H
              exact absurd H (by simp)
          · rw [if_neg c13] at H
            exact absurd H (by simp)
        · rw [if_neg c11] at H
          exact absurd H (by simp)
      · rw [if_neg c9] at H
        exact absurd H (by simp)
    · rw [if_neg c7] at H
      exact absurd H (by simp)
  · replace c3 := Bool.eq_false_iff.mpr c3
    subst c3
    have H1 : (some ((⟨#[]⟩ : ByteArray), (⟨#[]⟩ : ByteArray), false, 22)) = some (r1, r2, r3, r4) := by rw [if_neg (show ¬ (false = true) by decide)] at H; exact H
    clear H
    have H := H1
    clear H1
    simp only [Option.some.injEq, Prod.mk.injEq] at H
    obtain ⟨rfl, rfl, rfl, rfl⟩ := H
    go_enter Try.func33, Try.ntmps33
    go_wp2_with (first | ((with_reducible refine gate_dst (N := 1) rfl ?_); refine box_event ?hg (N := 1) ?hd (cs := #[.int .i64 a0_0, .int .i64 a0_1, .int .i64 a0_2, .int .i64 a0_3, .int .i64 a0_4, .int .i64 a0_5, .int .i64 a0_6]) (t := 52) ?hr ?_; (case hd => rfl); (case hg => rfl); (case hr => first | (go_simp; done) | (go_simp; rfl)); intro gb177 hg w32 hbox hb; have n0_ := Aside0.mk (below_step (by repeat (first | (with_reducible first | exact HB.out | apply below_alloc | apply pw_below_drewN | apply below_drew1) | exact HB.out)) hb); have n1_ := Aside0.mk (hbox); have n2_ := Aside0.mk ((by rw [hg]; exact (below_size (by repeat (first | (with_reducible first | exact HB.out | apply below_alloc | apply pw_below_drewN | apply below_drew1) | exact HB.out))) : w.heap.size ≤ gb177)); have n3_ := Aside0.mk ((by rw [hg]; exact (below_size (by repeat (first | (with_reducible first | exact HB.out | apply below_alloc | apply pw_below_drewN | apply below_drew1) | exact HB.out))) : w.heap.size ≤ gb177)); clear HB; have HB := n0_; have BK177 := n1_; have GW177 := n2_; have GE177 := n3_; clear n0_ n1_ n2_ n3_; clear hb hbox hg) | ((with_reducible refine gate_dst (N := 2) rfl ?_); refine box_event ?hg (N := 2) ?hd (cs := #[.string (⟨#[]⟩ : ByteArray), .string (⟨#[]⟩ : ByteArray), .bool false]) (t := 32) ?hr ?_; (case hd => rfl); (case hg => rfl); (case hr => first | (go_simp; done) | (go_simp; rfl)); intro gb178 hg w33 hbox hb; have n0_ := Aside0.mk (blk_below (g := gb177) (o := .cells #[.int .i64 a0_0, .int .i64 a0_1, .int .i64 a0_2, .int .i64 a0_3, .int .i64 a0_4, .int .i64 a0_5, .int .i64 a0_6] 52 (0, 0)) (by (with_reducible repeat (first | refine blk_drewN ?_ _ | refine blk_drew ?_ | refine blk_alloc ?_ _)); exact BK177.out) hb); have n1_ := Aside0.mk (below_step (by repeat (first | (with_reducible first | exact HB.out | apply below_alloc | apply pw_below_drewN | apply below_drew1 | refine below_set ?_ GE177.out) | exact HB.out)) hb); have n2_ := Aside0.mk (hbox); have n3_ := Aside0.mk ((by rw [hg]; exact (below_size (by repeat (first | (with_reducible first | exact HB.out | apply below_alloc | apply pw_below_drewN | apply below_drew1 | refine below_set ?_ GE177.out) | exact HB.out))) : w.heap.size ≤ gb178)); have n4_ := Aside0.mk ((by rw [hg]; exact (below_size (by repeat (first | (with_reducible first | exact HB.out | apply below_alloc | apply pw_below_drewN | apply below_drew1 | refine below_set ?_ GE177.out) | exact HB.out))) : w.heap.size ≤ gb178)); have n5_ := Aside0.mk ((by rw [hg]; exact Nat.ne_of_lt (blk_lt (g := gb177) (o := .cells #[.int .i64 a0_0, .int .i64 a0_1, .int .i64 a0_2, .int .i64 a0_3, .int .i64 a0_4, .int .i64 a0_5, .int .i64 a0_6] 52 (0, 0)) (by (with_reducible repeat (first | refine blk_drewN ?_ _ | refine blk_drew ?_ | refine blk_alloc ?_ _)); exact BK177.out)) : gb177 ≠ gb178)); have n6_ := Aside0.mk ((by rw [hg]; exact Nat.ne_of_gt (blk_lt (g := gb177) (o := .cells #[.int .i64 a0_0, .int .i64 a0_1, .int .i64 a0_2, .int .i64 a0_3, .int .i64 a0_4, .int .i64 a0_5, .int .i64 a0_6] 52 (0, 0)) (by (with_reducible repeat (first | refine blk_drewN ?_ _ | refine blk_drew ?_ | refine blk_alloc ?_ _)); exact BK177.out)) : gb178 ≠ gb177)); clear BK177; clear HB; have BK177 := n0_; have HB := n1_; have BK178 := n2_; have GW178 := n3_; have GE178 := n4_; have NB177_178 := n5_; have NB178_177 := n6_; clear n0_ n1_ n2_ n3_ n4_ n5_ n6_; clear hb hbox hg; have hnb34 := NB177_178.out; have hnc34 := NB178_177.out; have hcz35_0 : w33.cell? ⟨gb177, 0, none⟩ = some (.int .i64 a0_0) := (blk_cell BK177.out 0).trans rfl; have hcz35_1 : w33.cell? ⟨gb177, 1, none⟩ = some (.int .i64 a0_1) := (blk_cell BK177.out 1).trans rfl; have hcz35_2 : w33.cell? ⟨gb177, 2, none⟩ = some (.int .i64 a0_2) := (blk_cell BK177.out 2).trans rfl; have hcz35_3 : w33.cell? ⟨gb177, 3, none⟩ = some (.int .i64 a0_3) := (blk_cell BK177.out 3).trans rfl; have hcz35_4 : w33.cell? ⟨gb177, 4, none⟩ = some (.int .i64 a0_4) := (blk_cell BK177.out 4).trans rfl; have hcz35_5 : w33.cell? ⟨gb177, 5, none⟩ = some (.int .i64 a0_5) := (blk_cell BK177.out 5).trans rfl; have hcz35_6 : w33.cell? ⟨gb177, 6, none⟩ = some (.int .i64 a0_6) := (blk_cell BK177.out 6).trans rfl; have hfz35_0 := blk_frozen BK177.out 0; have hfz35_1 := blk_frozen BK177.out 1; have hfz35_2 := blk_frozen BK177.out 2; have hfz35_3 := blk_frozen BK177.out 3; have hfz35_4 := blk_frozen BK177.out 4; have hfz35_5 := blk_frozen BK177.out 5; have hfz35_6 := blk_frozen BK177.out 6) | ((with_reducible refine gate_callee (f := 60) rfl ?_); refine goesL_ (some 5) rfl rfl Try.func60 (by kernel_rfl) rfl #[.agg #[.int .i64 a0_0, .int .i64 a0_1, .int .i64 a0_2, .int .i64 a0_3, .int .i64 a0_4, .int .i64 a0_5, .int .i64 a0_6]] rfl (by (try simp only [List.map_toArray, List.map_cons, List.map_nil]); first | done | rfl | (simp only [List.length_drop, List.length_take]; rfl)) ?_; (with_reducible refine (pumiceref06_RightInode.calls a0_0 a0_1 a0_2 a0_3 a0_4 a0_5 a0_6 false _ A2.out).mono ?_); rintro e w36 ⟨rfl, hb⟩; refine ⟨_, rfl, ?_⟩; have n0_ := Aside0.mk (blk_below (g := gb177) (o := .cells #[.int .i64 a0_0, .int .i64 a0_1, .int .i64 a0_2, .int .i64 a0_3, .int .i64 a0_4, .int .i64 a0_5, .int .i64 a0_6] 52 (0, 0)) (by (with_reducible repeat (first | refine blk_drewN ?_ _ | refine blk_drew ?_ | refine blk_alloc ?_ _)); exact BK177.out) hb); have n1_ := Aside0.mk (blk_below (g := gb178) (o := .cells #[.string (⟨#[]⟩ : ByteArray), .string (⟨#[]⟩ : ByteArray), .bool false] 32 (0, 0)) (by (with_reducible repeat (first | refine blk_drewN ?_ _ | refine blk_drew ?_ | refine blk_alloc ?_ _)); exact BK178.out) hb); have n2_ := Aside0.mk (below_step (by repeat (first | (with_reducible first | exact HB.out | apply below_alloc | apply pw_below_drewN | apply below_drew1 | refine below_set ?_ GE177.out | refine below_set ?_ GE178.out) | exact HB.out)) hb); clear BK177; clear BK178; clear HB; have BK177 := n0_; have BK178 := n1_; have HB := n2_; clear n0_ n1_ n2_; (try clear hb); (try clear hb2); (try clear hk); (try clear hi); have hcz37_0 : w36.cell? ⟨gb178, 0, none⟩ = some (.string (⟨#[]⟩ : ByteArray)) := (blk_cell BK178.out 0).trans rfl; have hcz37_1 : w36.cell? ⟨gb178, 1, none⟩ = some (.string (⟨#[]⟩ : ByteArray)) := (blk_cell BK178.out 1).trans rfl; have hcz37_2 : w36.cell? ⟨gb178, 2, none⟩ = some (.bool false) := (blk_cell BK178.out 2).trans rfl; have hfz37_0 := blk_frozen BK178.out 0; have hfz37_1 := blk_frozen BK178.out 1; have hfz37_2 := blk_frozen BK178.out 2))
    refine bodyPost_ret (results_ct rfl _ _ gb178 32 #[.string (⟨#[]⟩ : ByteArray), .string (⟨#[]⟩ : ByteArray), .bool false] (0, 0) _ rfl (by (with_reducible repeat (first | refine blk_drewN ?_ _ | refine blk_drew ?_ | refine blk_alloc ?_ _)); refine blk_put (cs := #[.string (⟨#[]⟩ : ByteArray), .string (⟨#[]⟩ : ByteArray), .bool false]) ?_ 2 _ rfl; (with_reducible repeat (first | refine blk_drewN ?_ _ | refine blk_drew ?_ | refine blk_alloc ?_ _)); refine blk_put (cs := #[.string (⟨#[]⟩ : ByteArray), .string (⟨#[]⟩ : ByteArray), .bool false]) ?_ 1 _ rfl; (with_reducible repeat (first | refine blk_drewN ?_ _ | refine blk_drew ?_ | refine blk_alloc ?_ _)); refine blk_put (cs := #[.string (⟨#[]⟩ : ByteArray), .string (⟨#[]⟩ : ByteArray), .bool false]) ?_ 0 _ rfl; (with_reducible repeat (first | refine blk_drewN ?_ _ | refine blk_drew ?_ | refine blk_alloc ?_ _)); exact BK178.out) Try.underlying32 rfl (by kernel_rfl)) rfl ?_
    exact ⟨by first | rfl | exact isEmpty_bne_ _ | (simp [errW_none, errW_some] <;> rfl) | (simp [*, errW_none, errW_some] <;> rfl), by repeat (first | (with_reducible first | exact HB.out | apply below_alloc | apply pw_below_drewN | apply below_drew1 | refine below_set ?_ GE177.out | refine below_set ?_ GE178.out) | exact HB.out)⟩

end Go.Proofs.Ytakchpeohmkpkaa.Q

namespace Go.Proofs.Ytakchpeohmkpkaa.Q
open Go.RowKit Go.Proofs.YtakchpeohmkpkaaW.PrintWords Go.Proofs.YtakchpeohmkpkaaW.PrintLast Go.Proofs.YtakchpeohmkpkaaW.PrintMore Go.Proofs.Ytakchpeohmkpkaa.Sep
set_option linter.unusedVariables false
set_option linter.unusedSimpArgs false
def pumiceref06_get.f (s : ByteArray) : Option Int := if s.size ≤ 7 then some (leVal (bytesOf s)) else none
set_option maxHeartbeats 8000000 in
set_option maxRecDepth 100000 in
theorem pumiceref06_get.calls (a0 : ByteArray) (r : Int) (w : World) (h : pumiceref06_get.f a0 = some r) : Calls Try.prog 63 #[.string a0] w fun e w' => e = .returned (.int .i64 r) ∧ Below w.heap.size w w' := by
  unfold pumiceref06_get.f at h
  by_cases hs : a0.size ≤ 7
  rotate_left
  · rw [if_neg hs] at h
    cases h
  rw [if_pos hs] at h
  obtain rfl := Option.some.inj h
  have hlen : (bytesOf a0).length ≤ 7 := by rw [bytesOf_length]; exact hs
  have HG := Aside0.mk (rget_val (bytesOf a0) (bytes_of a0) (by omega))
  have hv := leVal_64 (bytes_of a0) hlen
  have HL := Aside0.mk hlen
  have HA := Aside0.mk (Holds.start w)
  clear hlen h
  go_enter Try.func63, Try.ntmps63
  go_wp2_with (first
    | ((with_reducible apply conv_); (case HH => first | exact HA.out | exact HA.out.any rfl rfl rfl rfl); (case hw => rfl); (case hev => conv => lhs; whnf); (case hv => rfl); (case hs => exact Try.underlying9); (case hd => exact Try.underlying34); (case he => exact Try.underlying5); intro bs w1 obs capbs HB_ HSbs hcapbs; have HSbs := Aside0.mk HSbs; have hcapbs := Aside0.mk hcapbs; simp only [Act.put, List.setIfInBounds_toArray, List.set_cons_zero, List.set_cons_succ]; clear HA; have HA := Aside0.mk HB_; clear HB_)
    | (go_at_call 54; (with_reducible apply Calls.mono); (case h => exact pumiceref01_Get.calls 9 _ _ _ _ _ (HSbs.out.C (h1 := fun _ => rfl) (HA.out.sub (List.singleton_sublist.2 List.mem_cons_self)) (by have := HL.out; omega)) hcapbs.out HG.out); rintro e w1 ⟨rfl, hd_⟩; have HB_ := HA.out.call1 (Drawn0.below hd_) rfl rfl rfl rfl; clear hd_ HA; have HA := Aside0.mk HB_; clear HB_))
  go_ret
  exact ⟨rfl, HA.out.below⟩
end Go.Proofs.Ytakchpeohmkpkaa.Q
