/- Numbers out of bytes, plain: what bits.Get and the document's Get reckon. -/
import Derived.Test.YtakchpeohmkpkaaQ4
import Derived.Test.YtakchpeohmkpkaaK1
namespace Go.Proofs.Ytakchpeohmkpkaa.Q
open Go.RowKit Go.Proofs.YtakchpeohmkpkaaW.PrintWords Go.Proofs.YtakchpeohmkpkaaW.PrintLast Go.Proofs.YtakchpeohmkpkaaW.PrintMore Go.Proofs.Ytakchpeohmkpkaa.Sep
set_option linter.unusedVariables false
set_option linter.unusedSimpArgs false
/-- The number of bytes, the lowest first. -/
def leVal : List Int → Int
  | [] => 0
  | x :: xs => x + 256 * leVal xs
def Bytes (xs : List Int) : Prop := ∀ x, x ∈ xs → 0 ≤ x ∧ x < 256
theorem Bytes.take {xs : List Int} (h : Bytes xs) (n : Nat) : Bytes (xs.take n) := fun x hx => h x (List.mem_of_mem_take hx)
theorem Bytes.drop {xs : List Int} (h : Bytes xs) (n : Nat) : Bytes (xs.drop n) := fun x hx => h x (List.mem_of_mem_drop hx)
theorem Bytes.nxt {xs : List Int} (h : Bytes xs) (a k : Nat) : Bytes (nxt xs a k) := by
  unfold Q.nxt
  split
  · exact (h.drop a).take k
  · intro x hx
    simp at hx
theorem bytes_of (s : ByteArray) : Bytes (bytesOf s) := by
  intro x hx
  unfold bytesOf at hx
  obtain ⟨b, _, rfl⟩ := List.mem_map.1 hx
  have := b.toNat_lt
  omega
theorem leVal_range : ∀ (xs : List Int), Bytes xs → 0 ≤ leVal xs ∧ leVal xs < (256 : Int) ^ xs.length
  | [], _ => by simp [leVal]
  | x :: xs, h => by
    have h1 := h x List.mem_cons_self
    have h2 := leVal_range xs (fun y hy => h y (List.mem_cons_of_mem _ hy))
    simp only [leVal, List.length_cons, Int.pow_succ]
    omega
theorem leVal_snoc : ∀ (xs : List Int) (x : Int), leVal (xs ++ [x]) = leVal xs + x * (256 : Int) ^ xs.length
  | [], x => by simp [leVal]
  | y :: xs, x => by
    simp only [List.cons_append, leVal, leVal_snoc xs x, List.length_cons, Int.pow_succ, Int.mul_add, Int.add_assoc]
    congr 2
    rw [Int.mul_comm 256, Int.mul_assoc]
theorem wrap_u64 {n : Int} (h0 : 0 ≤ n) (h1 : n < 18446744073709551616) : IntKind.u64.wrap n = n := by
  rw [IntKind.wrap_u64]
  omega
theorem or_u64 (a b j : Nat) (ha : a < 2 ^ j) (hb : b * 2 ^ j < 18446744073709551616) (hj : j < 64) : Go.bits .or .u64 (a : Int) ((b * 2 ^ j : Nat) : Int) = ((a + b * 2 ^ j : Nat) : Int) := by
  have h2j : 2 ^ j ≤ 9223372036854775808 := by
    have := Nat.pow_le_pow_right (n := 2) (by decide) (show j ≤ 63 by omega)
    simpa using this
  have hor : a ||| (b * 2 ^ j) = a + b * 2 ^ j := by
    have := Nat.two_pow_add_eq_or_of_lt (i := j) ha b
    rw [Nat.or_comm, Nat.mul_comm b, ← this]
    omega
  have h1 : (BitVec.ofInt 64 (a : Int)).toNat = a := by
    rw [BitVec.ofInt_natCast, BitVec.toNat_ofNat]; exact Nat.mod_eq_of_lt (by omega)
  have h2 : (BitVec.ofInt 64 ((b * 2 ^ j : Nat) : Int)).toNat = b * 2 ^ j := by
    rw [BitVec.ofInt_natCast, BitVec.toNat_ofNat]; exact Nat.mod_eq_of_lt (by omega)
  have hlt : a ||| (b * 2 ^ j) < 2 ^ 64 := Nat.or_lt_two_pow (by omega) (by omega)
  show IntKind.u64.wrap ((BitVec.ofInt 64 (a : Int) ||| BitVec.ofInt 64 ((b * 2 ^ j : Nat) : Int)).toNat : Int) = _
  rw [BitVec.toNat_or, h1, h2, hor]
  rw [hor] at hlt
  rw [wrap_u64 (by omega) (by omega)]
/-- One round of Get. -/
theorem get_round (a x : Int) (i : Nat) (hi : i < 8) (ha : 0 ≤ a ∧ a < (256 : Int) ^ i) (hx : 0 ≤ x ∧ x < 256) (s : Int) (hs : s = 8 * (i : Int)) : Go.bits .or .u64 a (shl .u64 (IntKind.u64.wrap x) s) = a + x * (256 : Int) ^ i := by
  subst hs
  obtain ⟨an, rfl⟩ := Int.eq_ofNat_of_zero_le ha.1
  obtain ⟨xn, rfl⟩ := Int.eq_ofNat_of_zero_le hx.1
  have hp : (256 : Int) ^ i = ((2 ^ (8 * i) : Nat) : Int) := by
    rw [Nat.pow_mul]
    simp
  rw [wrap_u64 hx.1 (by omega)]
  unfold shl
  have hmin : min (8 * (i : Int)).toNat IntKind.u64.bits = 8 * i := by
    show min (8 * (i : Int)).toNat 64 = 8 * i
    omega
  rw [hmin]
  have hb : xn * 2 ^ (8 * i) < 18446744073709551616 := by
    have h1 : xn ≤ 255 := by omega
    have h2 : 2 ^ (8 * i) ≤ 72057594037927936 := by
      have := Nat.pow_le_pow_right (n := 2) (by decide) (show 8 * i ≤ 56 by omega)
      simpa using this
    have h3 := Nat.mul_le_mul h1 h2
    omega
  have hcast : ((xn : Int) * 2 ^ (8 * i)) = ((xn * 2 ^ (8 * i) : Nat) : Int) := by simp
  rw [hcast, wrap_u64 (by omega) (by omega)]
  have := or_u64 an xn (8 * i) (by rw [hp] at ha; omega) hb (by omega)
  rw [this, hp]
  simp
theorem rd_take (xs : List Int) (i : Nat) (h : i < xs.length) : xs.take (i + 1) = xs.take i ++ [rd xs i] := by
  rw [List.take_succ_eq_append_getElem h]
  simp [rd, List.getD_eq_getElem?_getD, h]
theorem rd_byte {xs : List Int} (h : Bytes xs) (i : Nat) (hi : i < xs.length) : 0 ≤ rd xs i ∧ rd xs i < 256 := by
  have : rd xs i = xs[i] := by simp [rd, List.getD_eq_getElem?_getD, hi]
  rw [this]
  exact h _ (List.getElem_mem hi)
theorem get_loop (xs : List Int) (h : Bytes xs) (m : Nat) (hm : m ≤ xs.length) (hm8 : m ≤ 8) : ∀ (d k i : Nat), m - i = d → i ≤ m → d < k → bits_Get.l0 k xs (leVal (xs.take i)) m i = some (leVal (xs.take m)) := by
  intro d
  induction d with
  | zero =>
    intro k i hd hi hk
    obtain ⟨k, rfl⟩ : ∃ q, k = q + 1 := ⟨k - 1, by omega⟩
    obtain rfl : i = m := by omega
    simp only [bits_Get.l0]
    rw [if_neg (by omega)]
  | succ d ih =>
    intro k i hd hi hk
    obtain ⟨k, rfl⟩ : ∃ q, k = q + 1 := ⟨k - 1, by omega⟩
    simp only [bits_Get.l0]
    have hw : wrap64 (8 * (i : Int)) = 8 * (i : Int) := by unfold wrap64; omega
    have hw2 : wrap64 ((i : Int) + 1) = ((i + 1 : Nat) : Int) := by unfold wrap64; omega
    rw [if_pos (by omega), if_pos (by omega), if_pos (by omega), hw, hw2, if_pos (by omega)]
    have hr := leVal_range (xs.take i) (h.take i)
    have hli : (xs.take i).length = i := by simp; omega
    rw [hli] at hr
    have hstep := get_round (leVal (xs.take i)) (rd xs i) i (by omega) hr (rd_byte h i (by omega)) (8 * (i : Int)) rfl
    have ih' := ih k (i + 1) (by omega) (by omega) (by omega)
    rw [rd_take xs i (by omega), leVal_snoc, hli] at ih'
    rw [hstep]
    exact ih'
theorem get_val (xs : List Int) (h : Bytes xs) (hl : xs.length ≤ 8) : bits_Get.f 9 xs = some (leVal xs) := by
  unfold bits_Get.f
  have hm : mn (xs.length : Int) 8 = (xs.length : Int) := by unfold mn; split <;> omega
  rw [hm]
  have := get_loop xs h xs.length (Nat.le_refl _) hl xs.length 9 0 (by omega) (by omega) (by omega)
  simpa [leVal] using this
theorem rget_loop (xs : List Int) (h : Bytes xs) (hl : xs.length ≤ 8) : ∀ (d k i : Nat), xs.length - i = d → i ≤ xs.length → d < k → pumiceref01_Get.l0 k xs (leVal (xs.take i)) i = some (leVal xs) := by
  intro d
  induction d with
  | zero =>
    intro k i hd hi hk
    obtain ⟨k, rfl⟩ : ∃ q, k = q + 1 := ⟨k - 1, by omega⟩
    obtain rfl : i = xs.length := by omega
    simp only [pumiceref01_Get.l0]
    rw [if_neg (by omega)]
    simp
  | succ d ih =>
    intro k i hd hi hk
    obtain ⟨k, rfl⟩ : ∃ q, k = q + 1 := ⟨k - 1, by omega⟩
    simp only [pumiceref01_Get.l0]
    have hw : wrap64 (8 * (i : Int)) = 8 * (i : Int) := by unfold wrap64; omega
    have hu : IntKind.u64.wrap (8 * (i : Int)) = 8 * (i : Int) := wrap_u64 (by omega) (by omega)
    have hw2 : wrap64 ((i : Int) + 1) = ((i + 1 : Nat) : Int) := by unfold wrap64; omega
    rw [if_pos (by omega), if_pos (by omega), if_pos (by omega), hw, hu, hw2, if_pos (by omega)]
    have hr := leVal_range (xs.take i) (h.take i)
    have hli : (xs.take i).length = i := by simp; omega
    rw [hli] at hr
    have hstep := get_round (leVal (xs.take i)) (rd xs i) i (by omega) hr (rd_byte h i (by omega)) (8 * (i : Int)) rfl
    have ih' := ih k (i + 1) (by omega) (by omega) (by omega)
    rw [rd_take xs i (by omega), leVal_snoc, hli] at ih'
    rw [hstep]
    exact ih'
theorem rget_val (xs : List Int) (h : Bytes xs) (hl : xs.length ≤ 8) : pumiceref01_Get.f 9 xs = some (leVal xs) := by
  unfold pumiceref01_Get.f
  have := rget_loop xs h hl xs.length 9 0 (by omega) (by omega) (by omega)
  simpa [leVal] using this
theorem leVal_64 {xs : List Int} (h : Bytes xs) (hl : xs.length ≤ 7) : 0 ≤ leVal xs ∧ leVal xs < 72057594037927936 := by
  have h1 := leVal_range xs h
  have h2 : (256 : Int) ^ xs.length ≤ 72057594037927936 := by
    have := Nat.pow_le_pow_right (n := 256) (by decide) hl
    have h3 : (256 : Int) ^ xs.length = ((256 ^ xs.length : Nat) : Int) := by simp
    rw [h3]
    omega
  omega

/-- (*reader).number -/
theorem number_calls (g : Nat) (A : Option Addr) (c at_ k : Nat) (xs : List Int) (w0 w : World) (H : Frag) (HH : Holds w0 w ((g, RdB A c xs at_) :: H)) (hl : xs.length ≤ 281474976710656) (hc : xs.length ≤ c) (hat : at_ ≤ xs.length + 1) (hk : k ≤ 7) (hs : Src (Value.int .u8) w0 H A xs) (hb : Bytes xs) :
    Calls Try.prog 50 #[.pointer (some ⟨g, 0, none⟩), .int .i64 k] w fun e w' => e = .returned (.int .i64 (leVal (nxt xs at_ k))) ∧ Holds w0 w' ((g, RdB A c xs (pos xs at_ k)) :: H) := by
  have HA := Aside0.mk HH
  have HS := Aside0.mk hs
  have HG := Aside0.mk (get_val (nxt xs at_ k) (hb.nxt at_ k) (by have := nxt_le xs at_ k; omega))
  have hlen := nxt_le xs at_ k
  have hv := leVal_64 (hb.nxt at_ k) (by omega)
  clear HH hs hb
  go_enter Try.func50, Try.ntmps50
  go_wp2_with (first
    | (go_at_call 51; (with_reducible refine (next_calls g A c at_ k xs w0 w H H HA.out hl hc hat (by omega) HS.out).mono ?_); rintro e w1 ⟨A', c', rfl, hc1, hs1, HB⟩
       have HB1 := Aside0.mk HB
       have HC : Aside0 ((Kd.int .u8).C w1 A' (nxt xs at_ k).length (nxt xs at_ k)) := Aside0.mk (hs1.mono (H' := (g, RdB A c xs (pos xs at_ k)) :: H) (fun x hx => List.mem_cons_of_mem _ hx) |>.C (h1 := fun _ => rfl) HB (by omega))
       have hc1' := Aside0.mk hc1
       clear HB hs1 hc1)
    | (go_at_call 53; (with_reducible refine (bits_Get.calls 9 A' c' (nxt xs at_ k) _ _ HC.out hc1'.out HG.out).mono ?_); rintro e w2 ⟨rfl, hb2⟩))
  go_ret
  exact ⟨rfl, HB1.out.call hb2⟩
/-- What a reader reads lies in no reader's block. -/
theorem src_apart {g : Nat} {A A' : Option Addr} {c at_ : Nat} {xs ys : List Int} {w0 : World} {H R : Frag} (hs : Src (Value.int .u8) w0 H A xs) (hp : List.Perm H ((g, RdB A' c ys at_) :: R)) : Src (Value.int .u8) w0 R A xs := by
  rcases hs with h | ⟨b, off, hA, h | ⟨cs, t, fz, hm, hc⟩⟩
  · exact .inl h
  · exact .inr ⟨b, off, hA, .inl h⟩
  · cases xs with
    | nil => exact .inl rfl
    | cons x xs =>
      rcases List.mem_cons.1 (hp.mem_iff.1 hm) with he | hm
      · exfalso
        have h0 := hc 0 x rfl
        simp only [Prod.mk.injEq, RdB, Cl] at he
        obtain ⟨_, he⟩ := he
        injection he with he _ _
        have hcs : cs = [Value.slice A' ys.length c, Value.int IntKind.i64 at_] := by
          have := congrArg Array.toList he
          simpa using this
        subst hcs
        match off, h0 with
        | 0, h0 => simp at h0
        | 1, h0 => simp at h0
        | off + 2, h0 => simp at h0
      · exact .inr ⟨b, off, hA, .inr ⟨cs, t, fz, hm, hc⟩⟩
theorem number_at {g : Nat} {A : Option Addr} {c at_ k : Nat} {xs : List Int} {w0 w : World} {H H' : Frag} (HH : Holds w0 w H) (ha : Holds.At g (RdB A c xs at_) (RdB A c xs (pos xs at_ k)) H H') (hl : xs.length ≤ 281474976710656) (hc : xs.length ≤ c) (hat : at_ ≤ xs.length + 1) (hk : k ≤ 7) (hs : Src (Value.int .u8) w0 H A xs) (hb : Bytes xs) :
    Calls Try.prog 50 #[.pointer (some ⟨g, 0, none⟩), .int .i64 k] w fun e w' => e = .returned (.int .i64 (leVal (nxt xs at_ k))) ∧ Holds w0 w' H' := by
  obtain ⟨R, h1, h2⟩ := ha.perm
  exact (number_calls g A c at_ k xs w0 w R (HH.perm h1) hl hc hat hk (src_apart hs h1) hb).mono fun e w' ⟨he, hw⟩ => ⟨he, hw.perm h2.symm⟩
theorem next_at {g : Nat} {A : Option Addr} {c at_ k : Nat} {xs : List Int} {w0 w : World} {H H' Hs : Frag} {ki : Int} (HH : Holds w0 w H) (ha : Holds.At g (RdB A c xs at_) (RdB A c xs (pos xs at_ k)) H H') (hl : xs.length ≤ 281474976710656) (hc : xs.length ≤ c) (hat : at_ ≤ xs.length + 1) (hk : k ≤ 1048576) (hki : ki = (k : Int)) (hs : Src (Value.int .u8) w0 Hs A xs) :
    Calls Try.prog 51 #[.pointer (some ⟨g, 0, none⟩), .int .i64 ki] w fun e w' => ∃ A' c', e = .returned (.slice A' (nxt xs at_ k).length c') ∧ (nxt xs at_ k).length ≤ c' ∧ Src (Value.int .u8) w0 Hs A' (nxt xs at_ k) ∧ Holds w0 w' H' := by
  obtain ⟨R, h1, h2⟩ := ha.perm
  subst hki
  exact (next_calls g A c at_ k xs w0 w R Hs (HH.perm h1) hl hc hat hk hs).mono fun e w' ⟨A', c', he, hcc, hsr, hw⟩ => ⟨A', c', he, hcc, hsr, hw.perm h2.symm⟩
end Go.Proofs.Ytakchpeohmkpkaa.Q
