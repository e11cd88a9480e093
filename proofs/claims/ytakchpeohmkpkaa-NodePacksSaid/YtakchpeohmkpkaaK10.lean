/- pumiceref06.Pack. -/
import Derived.Test.YtakchpeohmkpkaaK2
import Derived.Test.YtakchpeohmkpkaaH5
import Derived.Test.YtakchpeohmkpkaaS3
namespace Go.Proofs.Ytakchpeohmkpkaa.Q
open Go.RowKit Go.Proofs.YtakchpeohmkpkaaW.PrintWords Go.Proofs.YtakchpeohmkpkaaW.PrintLast Go.Proofs.YtakchpeohmkpkaaW.PrintMore Go.Proofs.YtakchpeohmkpkaaW.PrintWords Go.Proofs.Ytakchpeohmkpkaa.Sep
set_option linter.unusedVariables false
set_option linter.unusedSimpArgs false
theorem leBytes_snoc : ∀ (m : Nat) (n : Int), leBytes n (m + 1) = leBytes n m ++ [n / 256 ^ m % 256]
  | 0, n => by simp [leBytes]
  | m + 1, n => by
    rw [leBytes, leBytes_snoc m (n / 256), leBytes]
    rw [Int.ediv_ediv_of_nonneg (by omega : (0 : Int) ≤ 256), show (256 : Int) * 256 ^ m = 256 ^ (m + 1) from by rw [Int.pow_succ]; omega]
    rfl
theorem leBytes_length : ∀ (m : Nat) (n : Int), (leBytes n m).length = m
  | 0, _ => rfl
  | m + 1, n => by rw [leBytes, List.length_cons, leBytes_length m]
theorem leBytes_bytes : ∀ (m : Nat) (n : Int), Bytes (leBytes n m)
  | 0, _ => fun x hx => by simp [leBytes] at hx
  | m + 1, n => fun x hx => by
    rw [leBytes, List.mem_cons] at hx
    rcases hx with rfl | hx
    · omega
    · exact leBytes_bytes m _ x hx
theorem rput_loop (n : Int) (m : Nat) (hm : m ≤ 8) : ∀ (d k i : Nat), i + d = m → d < k → pumiceref01_Put.l0 k n m (leBytes n i) i = some (leBytes n m)
  | 0, k + 1, i, h, _ => by
    have hi : i = m := by omega
    subst hi
    rw [pumiceref01_Put.l0, if_neg (by omega)]
  | d + 1, k + 1, i, h, hk => by
    have hw : wrap64 (8 * (i : Int)) = 8 * (i : Int) := by unfold wrap64; omega
    have hu : IntKind.u64.wrap (8 * (i : Int)) = 8 * (i : Int) := wrap_u64 (by omega) (by omega)
    have hw2 : wrap64 ((i : Int) + 1) = ((i + 1 : Nat) : Int) := by unfold wrap64; omega
    rw [pumiceref01_Put.l0, if_pos (by omega), if_pos (by omega), hw, hu, hw2, if_pos (by omega), if_pos (by rw [leBytes_length]; omega)]
    have hs : shr .u64 n (8 * (i : Int)) % 256 = n / 256 ^ i % 256 := by
      unfold shr
      have h1 : min (8 * (i : Int)).toNat IntKind.u64.bits = 8 * i := by
        have : IntKind.u64.bits = 64 := rfl
        omega
      rw [h1, show (2 : Int) ^ (8 * i) = 256 ^ i from by rw [Int.pow_mul]; rfl]
    rw [hs, ← leBytes_snoc]
    exact rput_loop n m hm d k (i + 1) (by omega) (by omega)
theorem rput_val (n : Int) (m : Nat) (hm : m ≤ 8) : pumiceref01_Put.f 9 n m = some (leBytes n m) := by
  unfold pumiceref01_Put.f
  have := rput_loop n m hm m 9 0 (by omega) (by omega)
  simpa [leBytes] using this
theorem rput_s (n : Int) (m : Nat) (hm : m ≤ 8) (h0 : 0 ≤ n) (h1 : n < 18446744073709551616) : pumiceref06_put.f 9 n m = some (strOfNums (leBytes n m)) := by
  unfold pumiceref06_put.f
  rw [wrap_u64 h0 h1, rput_val n m hm]
  rfl
theorem bytesOf_app (a b : ByteArray) : bytesOf (a ++ b) = bytesOf a ++ bytesOf b := by
  unfold bytesOf
  rw [← List.map_append]
  congr 1
theorem bytesOf_str {xs : List Int} (h : Bytes xs) : bytesOf (strOfNums xs) = xs := by
  unfold bytesOf
  rw [strOfNums_data, List.map_map]
  conv => rhs; rw [← List.map_id xs]
  apply List.map_congr_left
  intro x hx
  have := h x hx
  simp only [Function.comp, id]
  have h2 : (UInt8.ofNat x.toNat).toNat = x.toNat := by
    rw [UInt8.toNat_ofNat']
    omega
  omega
theorem Src.row_new {w0 w : World} {b : Nat} {o : Obj} {xs : List Int} {H : Frag} (h : Src (Value.int .u8) w0 [(b, o)] (some ⟨b, 0, none⟩) xs) (HH : Holds w0 w H) (hm : (b, o) ∈ H) (hl : xs.length ≤ 9223372036854775807) : Kd.F (Kd.int .u8) w (fun k_ => w0.heap.size ≤ k_) (some ⟨b, 0, none⟩) xs.length xs := by
  intro W' hW'
  have hb : W'.heap[b]? = some o := by rw [hW' b (HH.low _ hm) (HH.lt hm)]; exact HH.has _ hm
  have h2 : Src (Value.int .u8) ({ W' with heap := #[] } : World) [(b, o)] (some ⟨b, 0, none⟩) xs := by
    rcases h with h | ⟨b', off, hA, ⟨hlt, _⟩ | h⟩
    · exact .inl h
    · cases hA
      have := HH.low _ hm
      omega
    · exact .inr ⟨b', off, hA, .inr h⟩
  exact h2.C (h1 := fun _ => rfl) (w := W') ⟨⟨rfl, rfl, rfl, by simp, fun k hk => by simp at hk⟩, by simpa using hb, by simp, by simp⟩ hl
def pumiceref06_Pack.f (k v : ByteArray) (g : Bool) : Option (List Int × Int) := (pumiceref06_Right.f k v g).bind fun b => if b = true then some (packed k v g, 0) else some ([], 22)
theorem rright_sizes {k v : ByteArray} {g : Bool} (h : pumiceref06_Right.f k v g = some true) : 1 ≤ k.size ∧ k.size ≤ 64 ∧ v.size ≤ 256 := by
  unfold pumiceref06_Right.f at h
  by_cases h1 : (k.size : Int) ≥ 1
  · rw [if_pos h1] at h
    by_cases h2 : (k.size : Int) ≤ 64
    · rw [if_pos h2] at h
      by_cases h3 : (v.size : Int) ≤ 256
      · omega
      · rw [if_neg h3] at h; cases h
    · rw [if_neg h2] at h; cases h
  · rw [if_neg h1] at h; cases h
def packS (k v : ByteArray) (n : Int) : ByteArray := strOfNums (leBytes n 1) ++ strOfNums (leBytes k.size 1) ++ k ++ strOfNums (leBytes v.size 2) ++ v
theorem packS_bytes (k v : ByteArray) (n : Int) : bytesOf (packS k v n) = leBytes n 1 ++ leBytes k.size 1 ++ bytesOf k ++ leBytes v.size 2 ++ bytesOf v := by
  unfold packS
  rw [bytesOf_app, bytesOf_app, bytesOf_app, bytesOf_app, bytesOf_str (leBytes_bytes _ _), bytesOf_str (leBytes_bytes _ _), bytesOf_str (leBytes_bytes _ _)]
set_option maxHeartbeats 8000000 in
set_option maxRecDepth 100000 in
theorem pack_f (k v : ByteArray) (w : World) (hr : pumiceref06_Right.f k v false = some true) :
    Calls Try.prog 19 #[.agg #[.string k, .string v, .bool false]] w fun e w' => ∃ v0_ : Value, e = .returned (.tuple #[v0_, .int .i64 0]) ∧ Kd.V (Kd.int .u8) 5 w' w.heap.size (fun k_ => w.heap.size ≤ k_) v0_ (bytesOf (packS k v 1)) ∧ Below w.heap.size w w' := by
  obtain ⟨hk1, hk2, hv1⟩ := rright_sizes hr
  have HR := Aside0.mk hr
  have P1 := Aside0.mk (rput_s 1 1 (by decide) (by decide) (by decide))
  have P2 := Aside0.mk (rput_s (k.size : Int) 1 (by decide) (by omega) (by omega))
  have P3 := Aside0.mk (rput_s (v.size : Int) 2 (by decide) (by omega) (by omega))
  have z1 : (strOfNums (leBytes 1 1)).size = 1 := by rw [strOfNums_size, leBytes_length]
  have z2 : (strOfNums (leBytes k.size 1)).size = 1 := by rw [strOfNums_size, leBytes_length]
  have z3 : (strOfNums (leBytes v.size 2)).size = 2 := by rw [strOfNums_size, leBytes_length]
  have Z := Aside0.mk (show (strOfNums (leBytes 1 1)).size + (strOfNums (leBytes k.size 1)).size ≤ 9223372036854775807 ∧ (strOfNums (leBytes 1 1) ++ strOfNums (leBytes k.size 1)).size + k.size ≤ 9223372036854775807 ∧ (strOfNums (leBytes 1 1) ++ strOfNums (leBytes k.size 1) ++ k).size + (strOfNums (leBytes v.size 2)).size ≤ 9223372036854775807 ∧ (strOfNums (leBytes 1 1) ++ strOfNums (leBytes k.size 1) ++ k ++ strOfNums (leBytes v.size 2)).size + v.size ≤ 9223372036854775807 from by simp only [ByteArray.size_append]; omega)
  have ZB := Aside0.mk (show (bytesOf (packS k v 1)).length ≤ 9223372036854775807 from by rw [bytesOf_length]; unfold packS; simp only [ByteArray.size_append]; omega)
  have HA := Aside0.mk (Holds.start w)
  clear hr hk1 hk2 hv1 z1 z2 z3
  go_enter Try.func19, Try.ntmps19
  go_wp2_with (first
    | ((with_reducible apply box_); (case HH => first | exact HA.out | exact HA.out.any rfl rfl rfl rfl); (case hw => rfl); (case hev => conv => lhs; whnf); (case hy => rfl); intro bx w1 HB_; simp only [Act.put, List.setIfInBounds_toArray, List.set_cons_zero, List.set_cons_succ]; clear HA; have HA := Aside0.mk HB_; clear HB_)
    | ((with_reducible apply load1_); (case HH => first | exact HA.out | exact HA.out.any rfl rfl rfl rfl); (case ht => rfl); (case hx => rfl); (case hw => rfl); (case hm => first | exact List.Mem.head _ | exact List.Mem.tail _ (List.Mem.head _) | exact List.Mem.tail _ (List.Mem.tail _ (List.Mem.head _)) | exact List.Mem.tail _ (List.Mem.tail _ (List.Mem.tail _ (List.Mem.head _))) | exact List.Mem.tail _ (List.Mem.tail _ (List.Mem.tail _ (List.Mem.tail _ (List.Mem.head _)))) | exact List.Mem.tail _ (List.Mem.tail _ (List.Mem.tail _ (List.Mem.tail _ (List.Mem.tail _ (List.Mem.head _))))) | exact List.Mem.tail _ (List.Mem.tail _ (List.Mem.tail _ (List.Mem.tail _ (List.Mem.tail _ (List.Mem.tail _ (List.Mem.head _)))))) | exact List.Mem.tail _ (List.Mem.tail _ (List.Mem.tail _ (List.Mem.tail _ (List.Mem.tail _ (List.Mem.tail _ (List.Mem.tail _ (List.Mem.head _))))))) | exact List.Mem.tail _ (List.Mem.tail _ (List.Mem.tail _ (List.Mem.tail _ (List.Mem.tail _ (List.Mem.tail _ (List.Mem.tail _ (List.Mem.tail _ (List.Mem.head _))))))))); (case hv => exact rfl); simp only [Act.put, List.setIfInBounds_toArray, List.set_cons_zero, List.set_cons_succ])
    | ((with_reducible apply loadN_ (n := 3)); (case HH => first | exact HA.out | exact HA.out.any rfl rfl rfl rfl); (case ht => rfl); (case hn => decide +kernel); (case hx => rfl); (case hw => rfl); (case hm => first | exact List.Mem.head _ | exact List.Mem.tail _ (List.Mem.head _) | exact List.Mem.tail _ (List.Mem.tail _ (List.Mem.head _)) | exact List.Mem.tail _ (List.Mem.tail _ (List.Mem.tail _ (List.Mem.head _))) | exact List.Mem.tail _ (List.Mem.tail _ (List.Mem.tail _ (List.Mem.tail _ (List.Mem.head _)))) | exact List.Mem.tail _ (List.Mem.tail _ (List.Mem.tail _ (List.Mem.tail _ (List.Mem.tail _ (List.Mem.head _))))) | exact List.Mem.tail _ (List.Mem.tail _ (List.Mem.tail _ (List.Mem.tail _ (List.Mem.tail _ (List.Mem.tail _ (List.Mem.head _)))))) | exact List.Mem.tail _ (List.Mem.tail _ (List.Mem.tail _ (List.Mem.tail _ (List.Mem.tail _ (List.Mem.tail _ (List.Mem.tail _ (List.Mem.head _))))))) | exact List.Mem.tail _ (List.Mem.tail _ (List.Mem.tail _ (List.Mem.tail _ (List.Mem.tail _ (List.Mem.tail _ (List.Mem.tail _ (List.Mem.tail _ (List.Mem.head _))))))))); (case hv => first | (simp only [List.drop_succ_cons, List.drop_zero, List.take_succ_cons, List.take_zero]; rfl) | rfl); (case hl => rfl); simp only [Act.put, List.setIfInBounds_toArray, List.set_cons_zero, List.set_cons_succ])
    | (go_at_call 23; (with_reducible apply Calls.mono); (case h => exact pumiceref06_Right.calls _ _ _ _ _ HR.out); rintro e w1 ⟨rfl, hb_⟩; have HB_ := HA.out.call1 hb_ rfl rfl rfl rfl; clear hb_ HA; have HA := Aside0.mk HB_; clear HB_))
  refine start_H (by first | exact HA.out | exact HA.out.any rfl rfl rfl rfl) (n := 21) [] #[false, false, false, false, false, false, false, false, false, false, false, false, false, false, false, false, false, false, false, false, false] (by kernel_rfl) rfl rfl ?_
  refine pure_ (i := 0) (N := some 10) (v := ?_) (a' := ?_) #[true, false, false, false, false, false, false, false, false, false, false, false, false, false, false, false, false, false, false, false, false] rfl rfl (by kernel_rfl) (fun _ _ _ h => h) (Or.inl ⟨by rfl, ?_⟩) ?_ ?_
  rotate_left
  · intro w'
    go_simp
    with_reducible rfl
  rotate_left
  · simp only [Act.put, List.setIfInBounds_toArray, List.set_cons_zero, List.set_cons_succ, i64_w, i32_w]
    rfl
  refine pure_ (i := 2) (N := some 12) (v := ?_) (a' := ?_) #[true, false, true, false, false, false, false, false, false, false, false, false, false, false, false, false, false, false, false, false, false] rfl rfl (by kernel_rfl) (fun _ _ _ h => h) (Or.inl ⟨by rfl, ?_⟩) ?_ ?_
  rotate_left
  · intro w'
    go_simp
    with_reducible rfl
  rotate_left
  · simp only [Act.put, List.setIfInBounds_toArray, List.set_cons_zero, List.set_cons_succ, i64_w, i32_w]
    rfl
  refine pure_ (i := 7) (N := some 17) (v := ?_) (a' := ?_) #[true, false, true, false, false, false, false, true, false, false, false, false, false, false, false, false, false, false, false, false, false] rfl rfl (by kernel_rfl) (fun _ _ _ h => h) (Or.inl ⟨by rfl, ?_⟩) ?_ ?_
  rotate_left
  · intro w'
    go_simp
    with_reducible rfl
  rotate_left
  · simp only [Act.put, List.setIfInBounds_toArray, List.set_cons_zero, List.set_cons_succ, i64_w, i32_w]
    rfl
  refine pure_ (i := 10) (N := some 20) (v := ?_) (a' := ?_) #[true, false, true, false, false, false, false, true, false, false, true, false, false, false, false, false, false, false, false, false, false] rfl rfl (by kernel_rfl) (fun _ _ _ h => h) (Or.inl ⟨by rfl, ?_⟩) ?_ ?_
  rotate_left
  · intro w'
    go_simp
    with_reducible rfl
  rotate_left
  · simp only [Act.put, List.setIfInBounds_toArray, List.set_cons_zero, List.set_cons_succ, i64_w, i32_w]
    rfl
  refine pure_ (i := 15) (N := some 25) (v := ?_) (a' := ?_) #[true, false, true, false, false, false, false, true, false, false, true, false, false, false, false, true, false, false, false, false, false] rfl rfl (by kernel_rfl) (fun _ _ _ h => h) (Or.inl ⟨by rfl, ?_⟩) ?_ ?_
  rotate_left
  · intro w'
    go_simp
    with_reducible rfl
  rotate_left
  · simp only [Act.put, List.setIfInBounds_toArray, List.set_cons_zero, List.set_cons_succ, i64_w, i32_w]
    rfl
  apply take1_ (by first | exact HA.out | exact HA.out.any rfl rfl rfl rfl | exact (HA.out.any rfl rfl rfl rfl).tail | exact (HA.out.any rfl rfl rfl rfl).tail.tail | exact (HA.out.any rfl rfl rfl rfl).tail.tail.tail) (i := 3) (l' := #[true, false, true, true, false, false, false, true, false, false, true, false, false, false, false, true, false, false, false, false, false]) (N := some 13)
  case hi => rfl
  case hN => rfl
  case hc => kernel_rfl
  case hop => rfl
  case hx => rfl
  case hw => rfl
  case hm => first | exact List.Mem.head _ | exact List.Mem.tail _ (List.Mem.head _) | exact List.Mem.tail _ (List.Mem.tail _ (List.Mem.head _)) | exact List.Mem.tail _ (List.Mem.tail _ (List.Mem.tail _ (List.Mem.head _))) | exact List.Mem.tail _ (List.Mem.tail _ (List.Mem.tail _ (List.Mem.tail _ (List.Mem.head _)))) | exact List.Mem.tail _ (List.Mem.tail _ (List.Mem.tail _ (List.Mem.tail _ (List.Mem.tail _ (List.Mem.head _))))) | exact List.Mem.tail _ (List.Mem.tail _ (List.Mem.tail _ (List.Mem.tail _ (List.Mem.tail _ (List.Mem.tail _ (List.Mem.head _)))))) | exact List.Mem.tail _ (List.Mem.tail _ (List.Mem.tail _ (List.Mem.tail _ (List.Mem.tail _ (List.Mem.tail _ (List.Mem.tail _ (List.Mem.head _))))))) | exact List.Mem.tail _ (List.Mem.tail _ (List.Mem.tail _ (List.Mem.tail _ (List.Mem.tail _ (List.Mem.tail _ (List.Mem.tail _ (List.Mem.tail _ (List.Mem.head _))))))))
  case ht => rfl
  case hv => rfl
  case hQ => exact fun _ _ _ h => h
  case ha => (simp only [Act.put, List.setIfInBounds_toArray, List.set_cons_zero, List.set_cons_succ, i64_w, i32_w]; rfl)
  refine pure_ (i := 4) (N := some 14) (v := ?_) (a' := ?_) #[true, false, true, true, true, false, false, true, false, false, true, false, false, false, false, true, false, false, false, false, false] rfl rfl (by kernel_rfl) (fun _ _ _ h => h) (Or.inl ⟨by rfl, ?_⟩) ?_ ?_
  rotate_left
  · intro w'
    go_simp
    with_reducible rfl
  rotate_left
  · simp only [Act.put, List.setIfInBounds_toArray, List.set_cons_zero, List.set_cons_succ, i64_w, i32_w]
    rfl
  apply take1_ (by first | exact HA.out | exact HA.out.any rfl rfl rfl rfl | exact (HA.out.any rfl rfl rfl rfl).tail | exact (HA.out.any rfl rfl rfl rfl).tail.tail | exact (HA.out.any rfl rfl rfl rfl).tail.tail.tail) (i := 8) (l' := #[true, false, true, true, true, false, false, true, true, false, true, false, false, false, false, true, false, false, false, false, false]) (N := some 18)
  case hi => rfl
  case hN => rfl
  case hc => kernel_rfl
  case hop => rfl
  case hx => rfl
  case hw => rfl
  case hm => first | exact List.Mem.head _ | exact List.Mem.tail _ (List.Mem.head _) | exact List.Mem.tail _ (List.Mem.tail _ (List.Mem.head _)) | exact List.Mem.tail _ (List.Mem.tail _ (List.Mem.tail _ (List.Mem.head _))) | exact List.Mem.tail _ (List.Mem.tail _ (List.Mem.tail _ (List.Mem.tail _ (List.Mem.head _)))) | exact List.Mem.tail _ (List.Mem.tail _ (List.Mem.tail _ (List.Mem.tail _ (List.Mem.tail _ (List.Mem.head _))))) | exact List.Mem.tail _ (List.Mem.tail _ (List.Mem.tail _ (List.Mem.tail _ (List.Mem.tail _ (List.Mem.tail _ (List.Mem.head _)))))) | exact List.Mem.tail _ (List.Mem.tail _ (List.Mem.tail _ (List.Mem.tail _ (List.Mem.tail _ (List.Mem.tail _ (List.Mem.tail _ (List.Mem.head _))))))) | exact List.Mem.tail _ (List.Mem.tail _ (List.Mem.tail _ (List.Mem.tail _ (List.Mem.tail _ (List.Mem.tail _ (List.Mem.tail _ (List.Mem.tail _ (List.Mem.head _))))))))
  case ht => rfl
  case hv => rfl
  case hQ => exact fun _ _ _ h => h
  case ha => (simp only [Act.put, List.setIfInBounds_toArray, List.set_cons_zero, List.set_cons_succ, i64_w, i32_w]; rfl)
  apply take1_ (by first | exact HA.out | exact HA.out.any rfl rfl rfl rfl | exact (HA.out.any rfl rfl rfl rfl).tail | exact (HA.out.any rfl rfl rfl rfl).tail.tail | exact (HA.out.any rfl rfl rfl rfl).tail.tail.tail) (i := 11) (l' := #[true, false, true, true, true, false, false, true, true, false, true, true, false, false, false, true, false, false, false, false, false]) (N := some 21)
  case hi => rfl
  case hN => rfl
  case hc => kernel_rfl
  case hop => rfl
  case hx => rfl
  case hw => rfl
  case hm => first | exact List.Mem.head _ | exact List.Mem.tail _ (List.Mem.head _) | exact List.Mem.tail _ (List.Mem.tail _ (List.Mem.head _)) | exact List.Mem.tail _ (List.Mem.tail _ (List.Mem.tail _ (List.Mem.head _))) | exact List.Mem.tail _ (List.Mem.tail _ (List.Mem.tail _ (List.Mem.tail _ (List.Mem.head _)))) | exact List.Mem.tail _ (List.Mem.tail _ (List.Mem.tail _ (List.Mem.tail _ (List.Mem.tail _ (List.Mem.head _))))) | exact List.Mem.tail _ (List.Mem.tail _ (List.Mem.tail _ (List.Mem.tail _ (List.Mem.tail _ (List.Mem.tail _ (List.Mem.head _)))))) | exact List.Mem.tail _ (List.Mem.tail _ (List.Mem.tail _ (List.Mem.tail _ (List.Mem.tail _ (List.Mem.tail _ (List.Mem.tail _ (List.Mem.head _))))))) | exact List.Mem.tail _ (List.Mem.tail _ (List.Mem.tail _ (List.Mem.tail _ (List.Mem.tail _ (List.Mem.tail _ (List.Mem.tail _ (List.Mem.tail _ (List.Mem.head _))))))))
  case ht => rfl
  case hv => rfl
  case hQ => exact fun _ _ _ h => h
  case ha => (simp only [Act.put, List.setIfInBounds_toArray, List.set_cons_zero, List.set_cons_succ, i64_w, i32_w]; rfl)
  refine pure_ (i := 12) (N := some 22) (v := ?_) (a' := ?_) #[true, false, true, true, true, false, false, true, true, false, true, true, true, false, false, true, false, false, false, false, false] rfl rfl (by kernel_rfl) (fun _ _ _ h => h) (Or.inl ⟨by rfl, ?_⟩) ?_ ?_
  rotate_left
  · intro w'
    go_simp
    with_reducible rfl
  rotate_left
  · simp only [Act.put, List.setIfInBounds_toArray, List.set_cons_zero, List.set_cons_succ, i64_w, i32_w]
    rfl
  apply take1_ (by first | exact HA.out | exact HA.out.any rfl rfl rfl rfl | exact (HA.out.any rfl rfl rfl rfl).tail | exact (HA.out.any rfl rfl rfl rfl).tail.tail | exact (HA.out.any rfl rfl rfl rfl).tail.tail.tail) (i := 16) (l' := #[true, false, true, true, true, false, false, true, true, false, true, true, true, false, false, true, true, false, false, false, false]) (N := some 26)
  case hi => rfl
  case hN => rfl
  case hc => kernel_rfl
  case hop => rfl
  case hx => rfl
  case hw => rfl
  case hm => first | exact List.Mem.head _ | exact List.Mem.tail _ (List.Mem.head _) | exact List.Mem.tail _ (List.Mem.tail _ (List.Mem.head _)) | exact List.Mem.tail _ (List.Mem.tail _ (List.Mem.tail _ (List.Mem.head _))) | exact List.Mem.tail _ (List.Mem.tail _ (List.Mem.tail _ (List.Mem.tail _ (List.Mem.head _)))) | exact List.Mem.tail _ (List.Mem.tail _ (List.Mem.tail _ (List.Mem.tail _ (List.Mem.tail _ (List.Mem.head _))))) | exact List.Mem.tail _ (List.Mem.tail _ (List.Mem.tail _ (List.Mem.tail _ (List.Mem.tail _ (List.Mem.tail _ (List.Mem.head _)))))) | exact List.Mem.tail _ (List.Mem.tail _ (List.Mem.tail _ (List.Mem.tail _ (List.Mem.tail _ (List.Mem.tail _ (List.Mem.tail _ (List.Mem.head _))))))) | exact List.Mem.tail _ (List.Mem.tail _ (List.Mem.tail _ (List.Mem.tail _ (List.Mem.tail _ (List.Mem.tail _ (List.Mem.tail _ (List.Mem.tail _ (List.Mem.head _))))))))
  case ht => rfl
  case hv => rfl
  case hQ => exact fun _ _ _ h => h
  case ha => (simp only [Act.put, List.setIfInBounds_toArray, List.set_cons_zero, List.set_cons_succ, i64_w, i32_w]; rfl)
  refine one_ (i := 1) (N := some 11) #[true, true, true, true, true, false, false, true, true, false, true, true, true, false, false, true, true, false, false, false, false] rfl rfl (by kernel_rfl) (by decide) (fun K hK => ?_)
  apply call_e Try.func47 (args := #[.int .i64 1, .int .i64 1]); (case hname => kernel_rfl); (case hb => rfl); (case hop => rfl); (case hN => rfl); (case hw => rfl); (case hargs => ((try simp only [List.map_toArray, List.map_cons, List.map_nil]); first | done | rfl)); (case hcl => exact pumiceref06_put.calls 9 1 1 _ _ P1.out); rintro e w1 ⟨rfl, hb_⟩; refine ⟨_, rfl, ?_⟩; (have HB_ := HA.out.call1 hb_ rfl rfl rfl rfl; clear hb_ HA; have HA := Aside0.mk HB_; clear HB_)
  refine hK.out _ _ (by first | exact HA.out | exact HA.out.any rfl rfl rfl rfl | exact (HA.out.any rfl rfl rfl rfl).tail | exact (HA.out.any rfl rfl rfl rfl).tail.tail | exact (HA.out.any rfl rfl rfl rfl).tail.tail.tail) (fun hHeld => ?_)
  clear hK K
  refine norm_ (a' := ?_) ?_ ?_
  rotate_left
  · show Act.put _ (some 11) _ = _
    simp only [Act.put, List.setIfInBounds_toArray, List.set_cons_zero, List.set_cons_succ, i64_w, i32_w]
    rfl
  refine one_ (i := 5) (N := some 15) #[true, true, true, true, true, true, false, true, true, false, true, true, true, false, false, true, true, false, false, false, false] rfl rfl (by kernel_rfl) (by decide) (fun K hK => ?_)
  apply call_e Try.func47 (args := #[.int .i64 k.size, .int .i64 1]); (case hname => kernel_rfl); (case hb => rfl); (case hop => rfl); (case hN => rfl); (case hw => rfl); (case hargs => ((try simp only [List.map_toArray, List.map_cons, List.map_nil]); first | done | rfl)); (case hcl => exact pumiceref06_put.calls 9 k.size 1 _ _ P2.out); rintro e w1 ⟨rfl, hb_⟩; refine ⟨_, rfl, ?_⟩; (have HB_ := HA.out.call1 hb_ rfl rfl rfl rfl; clear hb_ HA; have HA := Aside0.mk HB_; clear HB_)
  refine hK.out _ _ (by first | exact HA.out | exact HA.out.any rfl rfl rfl rfl | exact (HA.out.any rfl rfl rfl rfl).tail | exact (HA.out.any rfl rfl rfl rfl).tail.tail | exact (HA.out.any rfl rfl rfl rfl).tail.tail.tail) (fun hHeld => ?_)
  clear hK K
  refine norm_ (a' := ?_) ?_ ?_
  rotate_left
  · show Act.put _ (some 15) _ = _
    simp only [Act.put, List.setIfInBounds_toArray, List.set_cons_zero, List.set_cons_succ, i64_w, i32_w]
    rfl
  refine take_ (i := 6) (N := some 16) (v := (.string (strOfNums (leBytes 1 1) ++ strOfNums (leBytes k.size 1)))) (a' := ?_) #[true, true, true, true, true, true, true, true, true, false, true, true, true, false, false, true, true, false, false, false, false] rfl rfl (by kernel_rfl) (fun _ _ _ h => h) (Or.inl ⟨by rfl, ?_⟩) (by first | exact HA.out | exact HA.out.any rfl rfl rfl rfl | exact (HA.out.any rfl rfl rfl rfl).tail | exact (HA.out.any rfl rfl rfl rfl).tail.tail | exact (HA.out.any rfl rfl rfl rfl).tail.tail.tail) ?_ ?_
  · intro w' s0
    (obtain ⟨c1, c2, c3, c4⟩ := Z.out; have c := c1; clear c1 c2 c3 c4; (try unfold packS); go_simp; try (simp only [ByteArray.size_append] at c; exact c))
  rotate_left
  · simp only [Act.put, List.setIfInBounds_toArray, List.set_cons_zero, List.set_cons_succ, i64_w, i32_w]
    rfl
  refine take_ (i := 9) (N := some 19) (v := (.string (strOfNums (leBytes 1 1) ++ strOfNums (leBytes k.size 1) ++ k))) (a' := ?_) #[true, true, true, true, true, true, true, true, true, true, true, true, true, false, false, true, true, false, false, false, false] rfl rfl (by kernel_rfl) (fun _ _ _ h => h) (Or.inl ⟨by rfl, ?_⟩) (by first | exact HA.out | exact HA.out.any rfl rfl rfl rfl | exact (HA.out.any rfl rfl rfl rfl).tail | exact (HA.out.any rfl rfl rfl rfl).tail.tail | exact (HA.out.any rfl rfl rfl rfl).tail.tail.tail) ?_ ?_
  · intro w' s0
    (obtain ⟨c1, c2, c3, c4⟩ := Z.out; have c := c2; clear c1 c2 c3 c4; (try unfold packS); go_simp; try (simp only [ByteArray.size_append] at c; exact c))
  rotate_left
  · simp only [Act.put, List.setIfInBounds_toArray, List.set_cons_zero, List.set_cons_succ, i64_w, i32_w]
    rfl
  refine one_ (i := 13) (N := some 23) #[true, true, true, true, true, true, true, true, true, true, true, true, true, true, false, true, true, false, false, false, false] rfl rfl (by kernel_rfl) (by decide) (fun K hK => ?_)
  apply call_e Try.func47 (args := #[.int .i64 v.size, .int .i64 2]); (case hname => kernel_rfl); (case hb => rfl); (case hop => rfl); (case hN => rfl); (case hw => rfl); (case hargs => ((try simp only [List.map_toArray, List.map_cons, List.map_nil]); first | done | rfl)); (case hcl => exact pumiceref06_put.calls 9 v.size 2 _ _ P3.out); rintro e w1 ⟨rfl, hb_⟩; refine ⟨_, rfl, ?_⟩; (have HB_ := HA.out.call1 hb_ rfl rfl rfl rfl; clear hb_ HA; have HA := Aside0.mk HB_; clear HB_)
  refine hK.out _ _ (by first | exact HA.out | exact HA.out.any rfl rfl rfl rfl | exact (HA.out.any rfl rfl rfl rfl).tail | exact (HA.out.any rfl rfl rfl rfl).tail.tail | exact (HA.out.any rfl rfl rfl rfl).tail.tail.tail) (fun hHeld => ?_)
  clear hK K
  refine norm_ (a' := ?_) ?_ ?_
  rotate_left
  · show Act.put _ (some 23) _ = _
    simp only [Act.put, List.setIfInBounds_toArray, List.set_cons_zero, List.set_cons_succ, i64_w, i32_w]
    rfl
  refine take_ (i := 14) (N := some 24) (v := (.string (strOfNums (leBytes 1 1) ++ strOfNums (leBytes k.size 1) ++ k ++ strOfNums (leBytes v.size 2)))) (a' := ?_) #[true, true, true, true, true, true, true, true, true, true, true, true, true, true, true, true, true, false, false, false, false] rfl rfl (by kernel_rfl) (fun _ _ _ h => h) (Or.inl ⟨by rfl, ?_⟩) (by first | exact HA.out | exact HA.out.any rfl rfl rfl rfl | exact (HA.out.any rfl rfl rfl rfl).tail | exact (HA.out.any rfl rfl rfl rfl).tail.tail | exact (HA.out.any rfl rfl rfl rfl).tail.tail.tail) ?_ ?_
  · intro w' s0
    (obtain ⟨c1, c2, c3, c4⟩ := Z.out; have c := c3; clear c1 c2 c3 c4; (try unfold packS); go_simp; try (simp only [ByteArray.size_append] at c; exact c))
  rotate_left
  · simp only [Act.put, List.setIfInBounds_toArray, List.set_cons_zero, List.set_cons_succ, i64_w, i32_w]
    rfl
  refine take_ (i := 17) (N := some 27) (v := (.string (packS k v 1))) (a' := ?_) #[true, true, true, true, true, true, true, true, true, true, true, true, true, true, true, true, true, true, false, false, false] rfl rfl (by kernel_rfl) (fun _ _ _ h => h) (Or.inl ⟨by rfl, ?_⟩) (by first | exact HA.out | exact HA.out.any rfl rfl rfl rfl | exact (HA.out.any rfl rfl rfl rfl).tail | exact (HA.out.any rfl rfl rfl rfl).tail.tail | exact (HA.out.any rfl rfl rfl rfl).tail.tail.tail) ?_ ?_
  · intro w' s0
    (obtain ⟨c1, c2, c3, c4⟩ := Z.out; have c := c4; clear c1 c2 c3 c4; (try unfold packS); go_simp; try (simp only [ByteArray.size_append] at c; exact c))
  rotate_left
  · simp only [Act.put, List.setIfInBounds_toArray, List.set_cons_zero, List.set_cons_succ, i64_w, i32_w]
    rfl
  refine one_ (i := 18) (N := some 28) #[true, true, true, true, true, true, true, true, true, true, true, true, true, true, true, true, true, true, true, false, false] rfl rfl (by kernel_rfl) (by decide) (fun K hK => ?_)
  (apply conv_e; (case HH => first | exact HA.out | exact HA.out.any rfl rfl rfl rfl); (case hop => rfl); (case hN => rfl); (case hw => rfl); (case hev => conv => lhs; whnf); (case hv => rfl); (case hs => exact Try.underlying9); (case hd => exact Try.underlying34); (case he => exact Try.underlying5); intro bs w1 os caps HB_ HSs hcaps; clear HA; have HA := Aside0.mk HB_; clear HB_; have HSs := Aside0.mk HSs; have hcaps := Aside0.mk hcaps)
  refine hK.out _ _ (by first | exact HA.out | exact HA.out.any rfl rfl rfl rfl | exact (HA.out.any rfl rfl rfl rfl).tail | exact (HA.out.any rfl rfl rfl rfl).tail.tail | exact (HA.out.any rfl rfl rfl rfl).tail.tail.tail) (fun hHeld => ?_)
  clear hK K
  refine norm_ (a' := ?_) ?_ ?_
  rotate_left
  · show Act.put _ (some 28) _ = _
    simp only [Act.put, List.setIfInBounds_toArray, List.set_cons_zero, List.set_cons_succ, i64_w, i32_w]
    rfl
  refine pure_ (i := 19) (N := some 2) (v := ?_) (a' := ?_) #[true, true, true, true, true, true, true, true, true, true, true, true, true, true, true, true, true, true, true, true, false] rfl rfl (by kernel_rfl) (fun _ _ _ h => h) (Or.inl ⟨by rfl, ?_⟩) ?_ ?_
  rotate_left
  · intro w'
    go_simp
    with_reducible rfl
  rotate_left
  · simp only [Act.put, List.setIfInBounds_toArray, List.set_cons_zero, List.set_cons_succ, i64_w, i32_w]
    rfl
  refine pure_ (i := 20) (N := some 3) (v := ?_) (a' := ?_) #[true, true, true, true, true, true, true, true, true, true, true, true, true, true, true, true, true, true, true, true, true] rfl rfl (by kernel_rfl) (fun _ _ _ h => h) (Or.inl ⟨by rfl, ?_⟩) ?_ ?_
  rotate_left
  · intro w'
    go_simp
    with_reducible rfl
  rotate_left
  · simp only [Act.put, List.setIfInBounds_toArray, List.set_cons_zero, List.set_cons_succ, i64_w, i32_w]
    rfl
  refine done_ (by kernel_rfl) ?_
  go_wp2
  (apply end_list [.tmp 2, .tmp 3]; (case hres => rfl); (case hd => rfl); (case hvs => apply Vals.tmp; apply Vals.tmp; exact .nil); (case hl => simp); (case hR => exact ⟨_, rfl, Kd.V_mk hcaps.out (Src.row_new HSs.out HA.out (by simp) ZB.out), HA.out.below⟩))
set_option maxHeartbeats 8000000 in
set_option maxRecDepth 100000 in
theorem pack_t (k v : ByteArray) (w : World) (hr : pumiceref06_Right.f k v true = some true) :
    Calls Try.prog 19 #[.agg #[.string k, .string v, .bool true]] w fun e w' => ∃ v0_ : Value, e = .returned (.tuple #[v0_, .int .i64 0]) ∧ Kd.V (Kd.int .u8) 5 w' w.heap.size (fun k_ => w.heap.size ≤ k_) v0_ (bytesOf (packS k v 2)) ∧ Below w.heap.size w w' := by
  obtain ⟨hk1, hk2, hv1⟩ := rright_sizes hr
  have HR := Aside0.mk hr
  have P1 := Aside0.mk (rput_s 2 1 (by decide) (by decide) (by decide))
  have P2 := Aside0.mk (rput_s (k.size : Int) 1 (by decide) (by omega) (by omega))
  have P3 := Aside0.mk (rput_s (v.size : Int) 2 (by decide) (by omega) (by omega))
  have z1 : (strOfNums (leBytes 2 1)).size = 1 := by rw [strOfNums_size, leBytes_length]
  have z2 : (strOfNums (leBytes k.size 1)).size = 1 := by rw [strOfNums_size, leBytes_length]
  have z3 : (strOfNums (leBytes v.size 2)).size = 2 := by rw [strOfNums_size, leBytes_length]
  have Z := Aside0.mk (show (strOfNums (leBytes 2 1)).size + (strOfNums (leBytes k.size 1)).size ≤ 9223372036854775807 ∧ (strOfNums (leBytes 2 1) ++ strOfNums (leBytes k.size 1)).size + k.size ≤ 9223372036854775807 ∧ (strOfNums (leBytes 2 1) ++ strOfNums (leBytes k.size 1) ++ k).size + (strOfNums (leBytes v.size 2)).size ≤ 9223372036854775807 ∧ (strOfNums (leBytes 2 1) ++ strOfNums (leBytes k.size 1) ++ k ++ strOfNums (leBytes v.size 2)).size + v.size ≤ 9223372036854775807 from by simp only [ByteArray.size_append]; omega)
  have ZB := Aside0.mk (show (bytesOf (packS k v 2)).length ≤ 9223372036854775807 from by rw [bytesOf_length]; unfold packS; simp only [ByteArray.size_append]; omega)
  have HA := Aside0.mk (Holds.start w)
  clear hr hk1 hk2 hv1 z1 z2 z3
  go_enter Try.func19, Try.ntmps19
  go_wp2_with (first
    | ((with_reducible apply box_); (case HH => first | exact HA.out | exact HA.out.any rfl rfl rfl rfl); (case hw => rfl); (case hev => conv => lhs; whnf); (case hy => rfl); intro bx w1 HB_; simp only [Act.put, List.setIfInBounds_toArray, List.set_cons_zero, List.set_cons_succ]; clear HA; have HA := Aside0.mk HB_; clear HB_)
    | ((with_reducible apply load1_); (case HH => first | exact HA.out | exact HA.out.any rfl rfl rfl rfl); (case ht => rfl); (case hx => rfl); (case hw => rfl); (case hm => first | exact List.Mem.head _ | exact List.Mem.tail _ (List.Mem.head _) | exact List.Mem.tail _ (List.Mem.tail _ (List.Mem.head _)) | exact List.Mem.tail _ (List.Mem.tail _ (List.Mem.tail _ (List.Mem.head _))) | exact List.Mem.tail _ (List.Mem.tail _ (List.Mem.tail _ (List.Mem.tail _ (List.Mem.head _)))) | exact List.Mem.tail _ (List.Mem.tail _ (List.Mem.tail _ (List.Mem.tail _ (List.Mem.tail _ (List.Mem.head _))))) | exact List.Mem.tail _ (List.Mem.tail _ (List.Mem.tail _ (List.Mem.tail _ (List.Mem.tail _ (List.Mem.tail _ (List.Mem.head _)))))) | exact List.Mem.tail _ (List.Mem.tail _ (List.Mem.tail _ (List.Mem.tail _ (List.Mem.tail _ (List.Mem.tail _ (List.Mem.tail _ (List.Mem.head _))))))) | exact List.Mem.tail _ (List.Mem.tail _ (List.Mem.tail _ (List.Mem.tail _ (List.Mem.tail _ (List.Mem.tail _ (List.Mem.tail _ (List.Mem.tail _ (List.Mem.head _))))))))); (case hv => exact rfl); simp only [Act.put, List.setIfInBounds_toArray, List.set_cons_zero, List.set_cons_succ])
    | ((with_reducible apply loadN_ (n := 3)); (case HH => first | exact HA.out | exact HA.out.any rfl rfl rfl rfl); (case ht => rfl); (case hn => decide +kernel); (case hx => rfl); (case hw => rfl); (case hm => first | exact List.Mem.head _ | exact List.Mem.tail _ (List.Mem.head _) | exact List.Mem.tail _ (List.Mem.tail _ (List.Mem.head _)) | exact List.Mem.tail _ (List.Mem.tail _ (List.Mem.tail _ (List.Mem.head _))) | exact List.Mem.tail _ (List.Mem.tail _ (List.Mem.tail _ (List.Mem.tail _ (List.Mem.head _)))) | exact List.Mem.tail _ (List.Mem.tail _ (List.Mem.tail _ (List.Mem.tail _ (List.Mem.tail _ (List.Mem.head _))))) | exact List.Mem.tail _ (List.Mem.tail _ (List.Mem.tail _ (List.Mem.tail _ (List.Mem.tail _ (List.Mem.tail _ (List.Mem.head _)))))) | exact List.Mem.tail _ (List.Mem.tail _ (List.Mem.tail _ (List.Mem.tail _ (List.Mem.tail _ (List.Mem.tail _ (List.Mem.tail _ (List.Mem.head _))))))) | exact List.Mem.tail _ (List.Mem.tail _ (List.Mem.tail _ (List.Mem.tail _ (List.Mem.tail _ (List.Mem.tail _ (List.Mem.tail _ (List.Mem.tail _ (List.Mem.head _))))))))); (case hv => first | (simp only [List.drop_succ_cons, List.drop_zero, List.take_succ_cons, List.take_zero]; rfl) | rfl); (case hl => rfl); simp only [Act.put, List.setIfInBounds_toArray, List.set_cons_zero, List.set_cons_succ])
    | (go_at_call 23; (with_reducible apply Calls.mono); (case h => exact pumiceref06_Right.calls _ _ _ _ _ HR.out); rintro e w1 ⟨rfl, hb_⟩; have HB_ := HA.out.call1 hb_ rfl rfl rfl rfl; clear hb_ HA; have HA := Aside0.mk HB_; clear HB_))
  refine start_H (by first | exact HA.out | exact HA.out.any rfl rfl rfl rfl) (n := 21) [] #[false, false, false, false, false, false, false, false, false, false, false, false, false, false, false, false, false, false, false, false, false] (by kernel_rfl) rfl rfl ?_
  refine pure_ (i := 0) (N := some 10) (v := ?_) (a' := ?_) #[true, false, false, false, false, false, false, false, false, false, false, false, false, false, false, false, false, false, false, false, false] rfl rfl (by kernel_rfl) (fun _ _ _ h => h) (Or.inl ⟨by rfl, ?_⟩) ?_ ?_
  rotate_left
  · intro w'
    go_simp
    with_reducible rfl
  rotate_left
  · simp only [Act.put, List.setIfInBounds_toArray, List.set_cons_zero, List.set_cons_succ, i64_w, i32_w]
    rfl
  refine pure_ (i := 2) (N := some 12) (v := ?_) (a' := ?_) #[true, false, true, false, false, false, false, false, false, false, false, false, false, false, false, false, false, false, false, false, false] rfl rfl (by kernel_rfl) (fun _ _ _ h => h) (Or.inl ⟨by rfl, ?_⟩) ?_ ?_
  rotate_left
  · intro w'
    go_simp
    with_reducible rfl
  rotate_left
  · simp only [Act.put, List.setIfInBounds_toArray, List.set_cons_zero, List.set_cons_succ, i64_w, i32_w]
    rfl
  refine pure_ (i := 7) (N := some 17) (v := ?_) (a' := ?_) #[true, false, true, false, false, false, false, true, false, false, false, false, false, false, false, false, false, false, false, false, false] rfl rfl (by kernel_rfl) (fun _ _ _ h => h) (Or.inl ⟨by rfl, ?_⟩) ?_ ?_
  rotate_left
  · intro w'
    go_simp
    with_reducible rfl
  rotate_left
  · simp only [Act.put, List.setIfInBounds_toArray, List.set_cons_zero, List.set_cons_succ, i64_w, i32_w]
    rfl
  refine pure_ (i := 10) (N := some 20) (v := ?_) (a' := ?_) #[true, false, true, false, false, false, false, true, false, false, true, false, false, false, false, false, false, false, false, false, false] rfl rfl (by kernel_rfl) (fun _ _ _ h => h) (Or.inl ⟨by rfl, ?_⟩) ?_ ?_
  rotate_left
  · intro w'
    go_simp
    with_reducible rfl
  rotate_left
  · simp only [Act.put, List.setIfInBounds_toArray, List.set_cons_zero, List.set_cons_succ, i64_w, i32_w]
    rfl
  refine pure_ (i := 15) (N := some 25) (v := ?_) (a' := ?_) #[true, false, true, false, false, false, false, true, false, false, true, false, false, false, false, true, false, false, false, false, false] rfl rfl (by kernel_rfl) (fun _ _ _ h => h) (Or.inl ⟨by rfl, ?_⟩) ?_ ?_
  rotate_left
  · intro w'
    go_simp
    with_reducible rfl
  rotate_left
  · simp only [Act.put, List.setIfInBounds_toArray, List.set_cons_zero, List.set_cons_succ, i64_w, i32_w]
    rfl
  apply take1_ (by first | exact HA.out | exact HA.out.any rfl rfl rfl rfl | exact (HA.out.any rfl rfl rfl rfl).tail | exact (HA.out.any rfl rfl rfl rfl).tail.tail | exact (HA.out.any rfl rfl rfl rfl).tail.tail.tail) (i := 3) (l' := #[true, false, true, true, false, false, false, true, false, false, true, false, false, false, false, true, false, false, false, false, false]) (N := some 13)
  case hi => rfl
  case hN => rfl
  case hc => kernel_rfl
  case hop => rfl
  case hx => rfl
  case hw => rfl
  case hm => first | exact List.Mem.head _ | exact List.Mem.tail _ (List.Mem.head _) | exact List.Mem.tail _ (List.Mem.tail _ (List.Mem.head _)) | exact List.Mem.tail _ (List.Mem.tail _ (List.Mem.tail _ (List.Mem.head _))) | exact List.Mem.tail _ (List.Mem.tail _ (List.Mem.tail _ (List.Mem.tail _ (List.Mem.head _)))) | exact List.Mem.tail _ (List.Mem.tail _ (List.Mem.tail _ (List.Mem.tail _ (List.Mem.tail _ (List.Mem.head _))))) | exact List.Mem.tail _ (List.Mem.tail _ (List.Mem.tail _ (List.Mem.tail _ (List.Mem.tail _ (List.Mem.tail _ (List.Mem.head _)))))) | exact List.Mem.tail _ (List.Mem.tail _ (List.Mem.tail _ (List.Mem.tail _ (List.Mem.tail _ (List.Mem.tail _ (List.Mem.tail _ (List.Mem.head _))))))) | exact List.Mem.tail _ (List.Mem.tail _ (List.Mem.tail _ (List.Mem.tail _ (List.Mem.tail _ (List.Mem.tail _ (List.Mem.tail _ (List.Mem.tail _ (List.Mem.head _))))))))
  case ht => rfl
  case hv => rfl
  case hQ => exact fun _ _ _ h => h
  case ha => (simp only [Act.put, List.setIfInBounds_toArray, List.set_cons_zero, List.set_cons_succ, i64_w, i32_w]; rfl)
  refine pure_ (i := 4) (N := some 14) (v := ?_) (a' := ?_) #[true, false, true, true, true, false, false, true, false, false, true, false, false, false, false, true, false, false, false, false, false] rfl rfl (by kernel_rfl) (fun _ _ _ h => h) (Or.inl ⟨by rfl, ?_⟩) ?_ ?_
  rotate_left
  · intro w'
    go_simp
    with_reducible rfl
  rotate_left
  · simp only [Act.put, List.setIfInBounds_toArray, List.set_cons_zero, List.set_cons_succ, i64_w, i32_w]
    rfl
  apply take1_ (by first | exact HA.out | exact HA.out.any rfl rfl rfl rfl | exact (HA.out.any rfl rfl rfl rfl).tail | exact (HA.out.any rfl rfl rfl rfl).tail.tail | exact (HA.out.any rfl rfl rfl rfl).tail.tail.tail) (i := 8) (l' := #[true, false, true, true, true, false, false, true, true, false, true, false, false, false, false, true, false, false, false, false, false]) (N := some 18)
  case hi => rfl
  case hN => rfl
  case hc => kernel_rfl
  case hop => rfl
  case hx => rfl
  case hw => rfl
  case hm => first | exact List.Mem.head _ | exact List.Mem.tail _ (List.Mem.head _) | exact List.Mem.tail _ (List.Mem.tail _ (List.Mem.head _)) | exact List.Mem.tail _ (List.Mem.tail _ (List.Mem.tail _ (List.Mem.head _))) | exact List.Mem.tail _ (List.Mem.tail _ (List.Mem.tail _ (List.Mem.tail _ (List.Mem.head _)))) | exact List.Mem.tail _ (List.Mem.tail _ (List.Mem.tail _ (List.Mem.tail _ (List.Mem.tail _ (List.Mem.head _))))) | exact List.Mem.tail _ (List.Mem.tail _ (List.Mem.tail _ (List.Mem.tail _ (List.Mem.tail _ (List.Mem.tail _ (List.Mem.head _)))))) | exact List.Mem.tail _ (List.Mem.tail _ (List.Mem.tail _ (List.Mem.tail _ (List.Mem.tail _ (List.Mem.tail _ (List.Mem.tail _ (List.Mem.head _))))))) | exact List.Mem.tail _ (List.Mem.tail _ (List.Mem.tail _ (List.Mem.tail _ (List.Mem.tail _ (List.Mem.tail _ (List.Mem.tail _ (List.Mem.tail _ (List.Mem.head _))))))))
  case ht => rfl
  case hv => rfl
  case hQ => exact fun _ _ _ h => h
  case ha => (simp only [Act.put, List.setIfInBounds_toArray, List.set_cons_zero, List.set_cons_succ, i64_w, i32_w]; rfl)
  apply take1_ (by first | exact HA.out | exact HA.out.any rfl rfl rfl rfl | exact (HA.out.any rfl rfl rfl rfl).tail | exact (HA.out.any rfl rfl rfl rfl).tail.tail | exact (HA.out.any rfl rfl rfl rfl).tail.tail.tail) (i := 11) (l' := #[true, false, true, true, true, false, false, true, true, false, true, true, false, false, false, true, false, false, false, false, false]) (N := some 21)
  case hi => rfl
  case hN => rfl
  case hc => kernel_rfl
  case hop => rfl
  case hx => rfl
  case hw => rfl
  case hm => first | exact List.Mem.head _ | exact List.Mem.tail _ (List.Mem.head _) | exact List.Mem.tail _ (List.Mem.tail _ (List.Mem.head _)) | exact List.Mem.tail _ (List.Mem.tail _ (List.Mem.tail _ (List.Mem.head _))) | exact List.Mem.tail _ (List.Mem.tail _ (List.Mem.tail _ (List.Mem.tail _ (List.Mem.head _)))) | exact List.Mem.tail _ (List.Mem.tail _ (List.Mem.tail _ (List.Mem.tail _ (List.Mem.tail _ (List.Mem.head _))))) | exact List.Mem.tail _ (List.Mem.tail _ (List.Mem.tail _ (List.Mem.tail _ (List.Mem.tail _ (List.Mem.tail _ (List.Mem.head _)))))) | exact List.Mem.tail _ (List.Mem.tail _ (List.Mem.tail _ (List.Mem.tail _ (List.Mem.tail _ (List.Mem.tail _ (List.Mem.tail _ (List.Mem.head _))))))) | exact List.Mem.tail _ (List.Mem.tail _ (List.Mem.tail _ (List.Mem.tail _ (List.Mem.tail _ (List.Mem.tail _ (List.Mem.tail _ (List.Mem.tail _ (List.Mem.head _))))))))
  case ht => rfl
  case hv => rfl
  case hQ => exact fun _ _ _ h => h
  case ha => (simp only [Act.put, List.setIfInBounds_toArray, List.set_cons_zero, List.set_cons_succ, i64_w, i32_w]; rfl)
  refine pure_ (i := 12) (N := some 22) (v := ?_) (a' := ?_) #[true, false, true, true, true, false, false, true, true, false, true, true, true, false, false, true, false, false, false, false, false] rfl rfl (by kernel_rfl) (fun _ _ _ h => h) (Or.inl ⟨by rfl, ?_⟩) ?_ ?_
  rotate_left
  · intro w'
    go_simp
    with_reducible rfl
  rotate_left
  · simp only [Act.put, List.setIfInBounds_toArray, List.set_cons_zero, List.set_cons_succ, i64_w, i32_w]
    rfl
  apply take1_ (by first | exact HA.out | exact HA.out.any rfl rfl rfl rfl | exact (HA.out.any rfl rfl rfl rfl).tail | exact (HA.out.any rfl rfl rfl rfl).tail.tail | exact (HA.out.any rfl rfl rfl rfl).tail.tail.tail) (i := 16) (l' := #[true, false, true, true, true, false, false, true, true, false, true, true, true, false, false, true, true, false, false, false, false]) (N := some 26)
  case hi => rfl
  case hN => rfl
  case hc => kernel_rfl
  case hop => rfl
  case hx => rfl
  case hw => rfl
  case hm => first | exact List.Mem.head _ | exact List.Mem.tail _ (List.Mem.head _) | exact List.Mem.tail _ (List.Mem.tail _ (List.Mem.head _)) | exact List.Mem.tail _ (List.Mem.tail _ (List.Mem.tail _ (List.Mem.head _))) | exact List.Mem.tail _ (List.Mem.tail _ (List.Mem.tail _ (List.Mem.tail _ (List.Mem.head _)))) | exact List.Mem.tail _ (List.Mem.tail _ (List.Mem.tail _ (List.Mem.tail _ (List.Mem.tail _ (List.Mem.head _))))) | exact List.Mem.tail _ (List.Mem.tail _ (List.Mem.tail _ (List.Mem.tail _ (List.Mem.tail _ (List.Mem.tail _ (List.Mem.head _)))))) | exact List.Mem.tail _ (List.Mem.tail _ (List.Mem.tail _ (List.Mem.tail _ (List.Mem.tail _ (List.Mem.tail _ (List.Mem.tail _ (List.Mem.head _))))))) | exact List.Mem.tail _ (List.Mem.tail _ (List.Mem.tail _ (List.Mem.tail _ (List.Mem.tail _ (List.Mem.tail _ (List.Mem.tail _ (List.Mem.tail _ (List.Mem.head _))))))))
  case ht => rfl
  case hv => rfl
  case hQ => exact fun _ _ _ h => h
  case ha => (simp only [Act.put, List.setIfInBounds_toArray, List.set_cons_zero, List.set_cons_succ, i64_w, i32_w]; rfl)
  refine one_ (i := 1) (N := some 11) #[true, true, true, true, true, false, false, true, true, false, true, true, true, false, false, true, true, false, false, false, false] rfl rfl (by kernel_rfl) (by decide) (fun K hK => ?_)
  apply call_e Try.func47 (args := #[.int .i64 2, .int .i64 1]); (case hname => kernel_rfl); (case hb => rfl); (case hop => rfl); (case hN => rfl); (case hw => rfl); (case hargs => ((try simp only [List.map_toArray, List.map_cons, List.map_nil]); first | done | rfl)); (case hcl => exact pumiceref06_put.calls 9 2 1 _ _ P1.out); rintro e w1 ⟨rfl, hb_⟩; refine ⟨_, rfl, ?_⟩; (have HB_ := HA.out.call1 hb_ rfl rfl rfl rfl; clear hb_ HA; have HA := Aside0.mk HB_; clear HB_)
  refine hK.out _ _ (by first | exact HA.out | exact HA.out.any rfl rfl rfl rfl | exact (HA.out.any rfl rfl rfl rfl).tail | exact (HA.out.any rfl rfl rfl rfl).tail.tail | exact (HA.out.any rfl rfl rfl rfl).tail.tail.tail) (fun hHeld => ?_)
  clear hK K
  refine norm_ (a' := ?_) ?_ ?_
  rotate_left
  · show Act.put _ (some 11) _ = _
    simp only [Act.put, List.setIfInBounds_toArray, List.set_cons_zero, List.set_cons_succ, i64_w, i32_w]
    rfl
  refine one_ (i := 5) (N := some 15) #[true, true, true, true, true, true, false, true, true, false, true, true, true, false, false, true, true, false, false, false, false] rfl rfl (by kernel_rfl) (by decide) (fun K hK => ?_)
  apply call_e Try.func47 (args := #[.int .i64 k.size, .int .i64 1]); (case hname => kernel_rfl); (case hb => rfl); (case hop => rfl); (case hN => rfl); (case hw => rfl); (case hargs => ((try simp only [List.map_toArray, List.map_cons, List.map_nil]); first | done | rfl)); (case hcl => exact pumiceref06_put.calls 9 k.size 1 _ _ P2.out); rintro e w1 ⟨rfl, hb_⟩; refine ⟨_, rfl, ?_⟩; (have HB_ := HA.out.call1 hb_ rfl rfl rfl rfl; clear hb_ HA; have HA := Aside0.mk HB_; clear HB_)
  refine hK.out _ _ (by first | exact HA.out | exact HA.out.any rfl rfl rfl rfl | exact (HA.out.any rfl rfl rfl rfl).tail | exact (HA.out.any rfl rfl rfl rfl).tail.tail | exact (HA.out.any rfl rfl rfl rfl).tail.tail.tail) (fun hHeld => ?_)
  clear hK K
  refine norm_ (a' := ?_) ?_ ?_
  rotate_left
  · show Act.put _ (some 15) _ = _
    simp only [Act.put, List.setIfInBounds_toArray, List.set_cons_zero, List.set_cons_succ, i64_w, i32_w]
    rfl
  refine take_ (i := 6) (N := some 16) (v := (.string (strOfNums (leBytes 2 1) ++ strOfNums (leBytes k.size 1)))) (a' := ?_) #[true, true, true, true, true, true, true, true, true, false, true, true, true, false, false, true, true, false, false, false, false] rfl rfl (by kernel_rfl) (fun _ _ _ h => h) (Or.inl ⟨by rfl, ?_⟩) (by first | exact HA.out | exact HA.out.any rfl rfl rfl rfl | exact (HA.out.any rfl rfl rfl rfl).tail | exact (HA.out.any rfl rfl rfl rfl).tail.tail | exact (HA.out.any rfl rfl rfl rfl).tail.tail.tail) ?_ ?_
  · intro w' s0
    (obtain ⟨c1, c2, c3, c4⟩ := Z.out; have c := c1; clear c1 c2 c3 c4; (try unfold packS); go_simp; try (simp only [ByteArray.size_append] at c; exact c))
  rotate_left
  · simp only [Act.put, List.setIfInBounds_toArray, List.set_cons_zero, List.set_cons_succ, i64_w, i32_w]
    rfl
  refine take_ (i := 9) (N := some 19) (v := (.string (strOfNums (leBytes 2 1) ++ strOfNums (leBytes k.size 1) ++ k))) (a' := ?_) #[true, true, true, true, true, true, true, true, true, true, true, true, true, false, false, true, true, false, false, false, false] rfl rfl (by kernel_rfl) (fun _ _ _ h => h) (Or.inl ⟨by rfl, ?_⟩) (by first | exact HA.out | exact HA.out.any rfl rfl rfl rfl | exact (HA.out.any rfl rfl rfl rfl).tail | exact (HA.out.any rfl rfl rfl rfl).tail.tail | exact (HA.out.any rfl rfl rfl rfl).tail.tail.tail) ?_ ?_
  · intro w' s0
    (obtain ⟨c1, c2, c3, c4⟩ := Z.out; have c := c2; clear c1 c2 c3 c4; (try unfold packS); go_simp; try (simp only [ByteArray.size_append] at c; exact c))
  rotate_left
  · simp only [Act.put, List.setIfInBounds_toArray, List.set_cons_zero, List.set_cons_succ, i64_w, i32_w]
    rfl
  refine one_ (i := 13) (N := some 23) #[true, true, true, true, true, true, true, true, true, true, true, true, true, true, false, true, true, false, false, false, false] rfl rfl (by kernel_rfl) (by decide) (fun K hK => ?_)
  apply call_e Try.func47 (args := #[.int .i64 v.size, .int .i64 2]); (case hname => kernel_rfl); (case hb => rfl); (case hop => rfl); (case hN => rfl); (case hw => rfl); (case hargs => ((try simp only [List.map_toArray, List.map_cons, List.map_nil]); first | done | rfl)); (case hcl => exact pumiceref06_put.calls 9 v.size 2 _ _ P3.out); rintro e w1 ⟨rfl, hb_⟩; refine ⟨_, rfl, ?_⟩; (have HB_ := HA.out.call1 hb_ rfl rfl rfl rfl; clear hb_ HA; have HA := Aside0.mk HB_; clear HB_)
  refine hK.out _ _ (by first | exact HA.out | exact HA.out.any rfl rfl rfl rfl | exact (HA.out.any rfl rfl rfl rfl).tail | exact (HA.out.any rfl rfl rfl rfl).tail.tail | exact (HA.out.any rfl rfl rfl rfl).tail.tail.tail) (fun hHeld => ?_)
  clear hK K
  refine norm_ (a' := ?_) ?_ ?_
  rotate_left
  · show Act.put _ (some 23) _ = _
    simp only [Act.put, List.setIfInBounds_toArray, List.set_cons_zero, List.set_cons_succ, i64_w, i32_w]
    rfl
  refine take_ (i := 14) (N := some 24) (v := (.string (strOfNums (leBytes 2 1) ++ strOfNums (leBytes k.size 1) ++ k ++ strOfNums (leBytes v.size 2)))) (a' := ?_) #[true, true, true, true, true, true, true, true, true, true, true, true, true, true, true, true, true, false, false, false, false] rfl rfl (by kernel_rfl) (fun _ _ _ h => h) (Or.inl ⟨by rfl, ?_⟩) (by first | exact HA.out | exact HA.out.any rfl rfl rfl rfl | exact (HA.out.any rfl rfl rfl rfl).tail | exact (HA.out.any rfl rfl rfl rfl).tail.tail | exact (HA.out.any rfl rfl rfl rfl).tail.tail.tail) ?_ ?_
  · intro w' s0
    (obtain ⟨c1, c2, c3, c4⟩ := Z.out; have c := c3; clear c1 c2 c3 c4; (try unfold packS); go_simp; try (simp only [ByteArray.size_append] at c; exact c))
  rotate_left
  · simp only [Act.put, List.setIfInBounds_toArray, List.set_cons_zero, List.set_cons_succ, i64_w, i32_w]
    rfl
  refine take_ (i := 17) (N := some 27) (v := (.string (packS k v 2))) (a' := ?_) #[true, true, true, true, true, true, true, true, true, true, true, true, true, true, true, true, true, true, false, false, false] rfl rfl (by kernel_rfl) (fun _ _ _ h => h) (Or.inl ⟨by rfl, ?_⟩) (by first | exact HA.out | exact HA.out.any rfl rfl rfl rfl | exact (HA.out.any rfl rfl rfl rfl).tail | exact (HA.out.any rfl rfl rfl rfl).tail.tail | exact (HA.out.any rfl rfl rfl rfl).tail.tail.tail) ?_ ?_
  · intro w' s0
    (obtain ⟨c1, c2, c3, c4⟩ := Z.out; have c := c4; clear c1 c2 c3 c4; (try unfold packS); go_simp; try (simp only [ByteArray.size_append] at c; exact c))
  rotate_left
  · simp only [Act.put, List.setIfInBounds_toArray, List.set_cons_zero, List.set_cons_succ, i64_w, i32_w]
    rfl
  refine one_ (i := 18) (N := some 28) #[true, true, true, true, true, true, true, true, true, true, true, true, true, true, true, true, true, true, true, false, false] rfl rfl (by kernel_rfl) (by decide) (fun K hK => ?_)
  (apply conv_e; (case HH => first | exact HA.out | exact HA.out.any rfl rfl rfl rfl); (case hop => rfl); (case hN => rfl); (case hw => rfl); (case hev => conv => lhs; whnf); (case hv => rfl); (case hs => exact Try.underlying9); (case hd => exact Try.underlying34); (case he => exact Try.underlying5); intro bs w1 os caps HB_ HSs hcaps; clear HA; have HA := Aside0.mk HB_; clear HB_; have HSs := Aside0.mk HSs; have hcaps := Aside0.mk hcaps)
  refine hK.out _ _ (by first | exact HA.out | exact HA.out.any rfl rfl rfl rfl | exact (HA.out.any rfl rfl rfl rfl).tail | exact (HA.out.any rfl rfl rfl rfl).tail.tail | exact (HA.out.any rfl rfl rfl rfl).tail.tail.tail) (fun hHeld => ?_)
  clear hK K
  refine norm_ (a' := ?_) ?_ ?_
  rotate_left
  · show Act.put _ (some 28) _ = _
    simp only [Act.put, List.setIfInBounds_toArray, List.set_cons_zero, List.set_cons_succ, i64_w, i32_w]
    rfl
  refine pure_ (i := 19) (N := some 2) (v := ?_) (a' := ?_) #[true, true, true, true, true, true, true, true, true, true, true, true, true, true, true, true, true, true, true, true, false] rfl rfl (by kernel_rfl) (fun _ _ _ h => h) (Or.inl ⟨by rfl, ?_⟩) ?_ ?_
  rotate_left
  · intro w'
    go_simp
    with_reducible rfl
  rotate_left
  · simp only [Act.put, List.setIfInBounds_toArray, List.set_cons_zero, List.set_cons_succ, i64_w, i32_w]
    rfl
  refine pure_ (i := 20) (N := some 3) (v := ?_) (a' := ?_) #[true, true, true, true, true, true, true, true, true, true, true, true, true, true, true, true, true, true, true, true, true] rfl rfl (by kernel_rfl) (fun _ _ _ h => h) (Or.inl ⟨by rfl, ?_⟩) ?_ ?_
  rotate_left
  · intro w'
    go_simp
    with_reducible rfl
  rotate_left
  · simp only [Act.put, List.setIfInBounds_toArray, List.set_cons_zero, List.set_cons_succ, i64_w, i32_w]
    rfl
  refine done_ (by kernel_rfl) ?_
  go_wp2
  (apply end_list [.tmp 2, .tmp 3]; (case hres => rfl); (case hd => rfl); (case hvs => apply Vals.tmp; apply Vals.tmp; exact .nil); (case hl => simp); (case hR => exact ⟨_, rfl, Kd.V_mk hcaps.out (Src.row_new HSs.out HA.out (by simp) ZB.out), HA.out.below⟩))
set_option maxHeartbeats 8000000 in
set_option maxRecDepth 100000 in
theorem pack_no (k v : ByteArray) (g : Bool) (w : World) (hr : pumiceref06_Right.f k v g = some false) :
    Calls Try.prog 19 #[.agg #[.string k, .string v, .bool g]] w fun e w' => ∃ v0_ : Value, e = .returned (.tuple #[v0_, .int .i64 22]) ∧ Kd.V (Kd.int .u8) 5 w' w.heap.size (fun k_ => w.heap.size ≤ k_) v0_ [] ∧ Below w.heap.size w w' := by
  have HR := Aside0.mk hr
  have HA := Aside0.mk (Holds.start w)
  clear hr
  go_enter Try.func19, Try.ntmps19
  go_wp2_with (first
    | ((with_reducible apply box_); (case HH => first | exact HA.out | exact HA.out.any rfl rfl rfl rfl); (case hw => rfl); (case hev => conv => lhs; whnf); (case hy => rfl); intro bx w1 HB_; simp only [Act.put, List.setIfInBounds_toArray, List.set_cons_zero, List.set_cons_succ]; clear HA; have HA := Aside0.mk HB_; clear HB_)
    | ((with_reducible apply load1_); (case HH => first | exact HA.out | exact HA.out.any rfl rfl rfl rfl); (case ht => rfl); (case hx => rfl); (case hw => rfl); (case hm => first | exact List.Mem.head _ | exact List.Mem.tail _ (List.Mem.head _) | exact List.Mem.tail _ (List.Mem.tail _ (List.Mem.head _)) | exact List.Mem.tail _ (List.Mem.tail _ (List.Mem.tail _ (List.Mem.head _))) | exact List.Mem.tail _ (List.Mem.tail _ (List.Mem.tail _ (List.Mem.tail _ (List.Mem.head _)))) | exact List.Mem.tail _ (List.Mem.tail _ (List.Mem.tail _ (List.Mem.tail _ (List.Mem.tail _ (List.Mem.head _))))) | exact List.Mem.tail _ (List.Mem.tail _ (List.Mem.tail _ (List.Mem.tail _ (List.Mem.tail _ (List.Mem.tail _ (List.Mem.head _)))))) | exact List.Mem.tail _ (List.Mem.tail _ (List.Mem.tail _ (List.Mem.tail _ (List.Mem.tail _ (List.Mem.tail _ (List.Mem.tail _ (List.Mem.head _))))))) | exact List.Mem.tail _ (List.Mem.tail _ (List.Mem.tail _ (List.Mem.tail _ (List.Mem.tail _ (List.Mem.tail _ (List.Mem.tail _ (List.Mem.tail _ (List.Mem.head _))))))))); (case hv => exact rfl); simp only [Act.put, List.setIfInBounds_toArray, List.set_cons_zero, List.set_cons_succ])
    | ((with_reducible apply loadN_ (n := 3)); (case HH => first | exact HA.out | exact HA.out.any rfl rfl rfl rfl); (case ht => rfl); (case hn => decide +kernel); (case hx => rfl); (case hw => rfl); (case hm => first | exact List.Mem.head _ | exact List.Mem.tail _ (List.Mem.head _) | exact List.Mem.tail _ (List.Mem.tail _ (List.Mem.head _)) | exact List.Mem.tail _ (List.Mem.tail _ (List.Mem.tail _ (List.Mem.head _))) | exact List.Mem.tail _ (List.Mem.tail _ (List.Mem.tail _ (List.Mem.tail _ (List.Mem.head _)))) | exact List.Mem.tail _ (List.Mem.tail _ (List.Mem.tail _ (List.Mem.tail _ (List.Mem.tail _ (List.Mem.head _))))) | exact List.Mem.tail _ (List.Mem.tail _ (List.Mem.tail _ (List.Mem.tail _ (List.Mem.tail _ (List.Mem.tail _ (List.Mem.head _)))))) | exact List.Mem.tail _ (List.Mem.tail _ (List.Mem.tail _ (List.Mem.tail _ (List.Mem.tail _ (List.Mem.tail _ (List.Mem.tail _ (List.Mem.head _))))))) | exact List.Mem.tail _ (List.Mem.tail _ (List.Mem.tail _ (List.Mem.tail _ (List.Mem.tail _ (List.Mem.tail _ (List.Mem.tail _ (List.Mem.tail _ (List.Mem.head _))))))))); (case hv => first | (simp only [List.drop_succ_cons, List.drop_zero, List.take_succ_cons, List.take_zero]; rfl) | rfl); (case hl => rfl); simp only [Act.put, List.setIfInBounds_toArray, List.set_cons_zero, List.set_cons_succ])
    | (go_at_call 23; (with_reducible apply Calls.mono); (case h => exact pumiceref06_Right.calls _ _ _ _ _ HR.out); rintro e w1 ⟨rfl, hb_⟩; have HB_ := HA.out.call1 hb_ rfl rfl rfl rfl; clear hb_ HA; have HA := Aside0.mk HB_; clear HB_))
  (apply end_list [.tmp 2, .tmp 3]; (case hres => rfl); (case hd => rfl); (case hvs => apply Vals.tmp; apply Vals.tmp; exact .nil); (case hl => simp); (case hR => exact ⟨_, rfl, Kd.V_nil _ _ _ _ _, HA.out.below⟩))
theorem pumiceref06_Pack.calls (a0_0 : ByteArray) (a0_1 : ByteArray) (a0_2 : Bool) (r1 : List Int) (r2 : Int) (w : World) (h : pumiceref06_Pack.f a0_0 a0_1 a0_2 = some (r1, r2)) :
    Calls Try.prog 19 #[.agg #[.string a0_0, .string a0_1, .bool a0_2]] w fun e w' => ∃ v0_ : Value, e = .returned (.tuple #[v0_, .int .i64 r2]) ∧ Kd.V (Kd.int .u8) 5 w' w.heap.size (fun k_ => w.heap.size ≤ k_) v0_ r1 ∧ Below w.heap.size w w' := by
  unfold pumiceref06_Pack.f at h
  obtain ⟨b, hb, h⟩ := Option.bind_eq_some_iff.mp h
  cases b with
  | false =>
    rw [if_neg (by simp)] at h
    simp only [Option.some.injEq, Prod.mk.injEq] at h
    obtain ⟨rfl, rfl⟩ := h
    exact pack_no _ _ _ w hb
  | true =>
    rw [if_pos rfl] at h
    simp only [Option.some.injEq, Prod.mk.injEq] at h
    obtain ⟨rfl, rfl⟩ := h
    cases a0_2 with
    | false => have := pack_f a0_0 a0_1 w hb; rw [packS_bytes] at this; exact this
    | true => have := pack_t a0_0 a0_1 w hb; rw [packS_bytes] at this; exact this
theorem Kd_V_string {P : Program} {W : World} {src dst e : TypeId} {e' base : Nat} {ok : Nat → Prop} {v : Value} {xs : List Int} (hs : P.underlying src = some (.slice e)) (he : P.underlying e = some (.int .u8)) (hd : P.underlying dst = some .string)
    (h : Kd.V (Kd.int .u8) e' W base ok v xs) : (convert src dst v).run P W = .ok (.string (strOfNums xs)) W := by
  obtain ⟨A, c, rfl, _, hf⟩ := h
  exact Kd.C_string hs he hd (Kd.F_now hf)
end Go.Proofs.Ytakchpeohmkpkaa.Q
