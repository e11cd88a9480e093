/- A11, H3, H2, H4, H5, H7, Q6, A0, Q1, Q2, Q3, H9, K5, K7 -/
import Derived.Deep.RegionLaw
import Derived.Lib.Strings
import Derived.Test.YtakchpeohmkpkaaBa
import Derived.Test.YtakchpeohmkpkaaBb
import Derived.Test.YtakchpeohmkpkaaBc
import Derived.Test.YtakchpeohmkpkaaBd
namespace Go.Proofs.Ytakchpeohmkpkaa.Q
open Go.RowKit Go.Proofs.YtakchpeohmkpkaaW.PrintWords
set_option linter.unusedVariables false
set_option linter.unusedSimpArgs false
theorem pos_two (l : List Int) (a k : Nat) : (pos l a k = a + k ∧ a + k ≤ l.length) ∨ (pos l a k = l.length + 1 ∧ l.length < a + k) := by
  unfold pos
  split <;> omega
theorem leVal_one (x : Int) : leVal [x] = x := by simp [leVal]
theorem right_some2 (k v : ByteArray) (g : Bool) : ∃ b, node_Right.f k v g = some b := by
  unfold node_Right.f
  by_cases h1 : (k.size : Int) ≥ 1 <;> by_cases h2 : (k.size : Int) ≤ 64 <;> by_cases h3 : (v.size : Int) ≤ 256 <;> cases g <;> by_cases h4 : v.toList = [] <;> simp [h1, h2, h3, h4]
theorem byteB_of {l : List Int} (hb : Bytes l) : byteB l = true := by
  unfold byteB
  rw [List.all_eq_true]
  intro x hx
  have := hb x hx
  simp [this.1, this.2]
/-- What both readers make of bytes. -/
def recd (k0 n0 : Int) (key vv : List Int) (M : Nat) : ByteArray × ByteArray × Bool × Bool :=
  if (k0 = 1 ∨ k0 = 2) ∧ M = vv.length ∧ node_Right.f (strOfNums key) (strOfNums vv) (decide (k0 = 2)) = some true then (strOfNums key, strOfNums vv, decide (k0 = 2), true) else (⟨#[]⟩, ⟨#[]⟩, false, false)
theorem node_unpack_val (k0 : Int) (n : Nat) (key vv : List Int) (m0 m1' : Int) (M : Nat) (hb : Bytes (k0 :: (n : Int) :: (key ++ m0 :: m1' :: vv))) (hl : (k0 :: (n : Int) :: (key ++ m0 :: m1' :: vv)).length ≤ 281474976710656) (htl : key.length = n) (hMM : m0 + 256 * m1' = (M : Int)) :
    node_Unpack.f (k0 :: (n : Int) :: (key ++ m0 :: m1' :: vv)) = some (recd k0 n key vv M) := by
  obtain ⟨t, ht⟩ : ∃ t, t = key ++ m0 :: m1' :: vv := ⟨_, rfl⟩
  rw [← ht] at hb hl ⊢
  have htk : t.take n = key := by rw [ht, ← htl, List.take_left]
  have hd : t.drop n = m0 :: m1' :: vv := by rw [ht, ← htl, List.drop_left]
  have hvl : t.length = n + 2 + vv.length := by rw [ht, List.length_append, htl]; simp only [List.length_cons]; omega
  have hlen : ((k0 :: (n : Int) :: t)).length = t.length + 2 := rfl
  have e1 : pos (k0 :: (n : Int) :: t) 0 1 = 1 := by have := pos_two (k0 :: (n : Int) :: t) 0 1; omega
  have e2 : pos (k0 :: (n : Int) :: t) 1 1 = 2 := by have := pos_two (k0 :: (n : Int) :: t) 1 1; omega
  have m1 : nxt (k0 :: (n : Int) :: t) 0 1 = [k0] := by unfold nxt; rw [if_pos (by simp)]; rfl
  have m2 : nxt (k0 :: (n : Int) :: t) 1 1 = [(n : Int)] := by unfold nxt; rw [if_pos (by simp)]; rfl
  have e3 : pos (k0 :: (n : Int) :: t) 2 n = 2 + n := by have := pos_two (k0 :: (n : Int) :: t) 2 n; omega
  have e4 : pos (k0 :: (n : Int) :: t) (2 + n) 2 = 4 + n := by have := pos_two (k0 :: (n : Int) :: t) (2 + n) 2; omega
  have m3 : nxt (k0 :: (n : Int) :: t) 2 n = key := by unfold nxt; rw [if_pos (by omega)]; exact htk
  have m4 : nxt (k0 :: (n : Int) :: t) (2 + n) 2 = [m0, m1'] := by
    unfold nxt
    rw [if_pos (by omega), show 2 + n = n + 2 from by omega]
    show (t.drop n).take 2 = _
    rw [hd]
    rfl
  have hM : leVal [m0, m1'] = m0 + 256 * m1' := by simp [leVal]
  unfold node_Unpack.f
  rw [if_pos ⟨byteB_of hb, hl⟩]
  simp only [e1, e2, m1, m2, leVal_one, Int.toNat_natCast, e3, e4, m3, m4, hM, hMM]
  obtain ⟨rt, hrt⟩ := right_some2 (strOfNums key) (strOfNums (nxt (k0 :: (n : Int) :: t) (4 + n) M)) (decide (k0 = 2))
  rw [hrt]
  have p5 := pos_two (k0 :: (n : Int) :: t) (4 + n) M
  simp only [unpackN, e1, e2, m1, m2, leVal_one, Int.toNat_natCast, e3, e4, m3, m4, hM, hMM, Option.bind_some]
  congr 1
  unfold recd
  by_cases hMv : M = vv.length
  · have e5 : pos (k0 :: (n : Int) :: t) (4 + n) M = (k0 :: (n : Int) :: t).length := by omega
    have m5 : nxt (k0 :: (n : Int) :: t) (4 + n) M = vv := by
      unfold nxt
      rw [if_pos (by omega), show 4 + n = (n + 2) + 2 from by omega]
      show (t.drop (n + 2)).take M = _
      rw [← List.drop_drop, hd, hMv]
      show vv.take vv.length = vv
      rw [List.take_length]
    rw [m5] at hrt ⊢
    rw [hrt, e5]
    by_cases hkk : k0 = 1 ∨ k0 = 2 <;> cases rt <;> simp [hkk, hMv]
  · rw [if_neg (c := _ ∧ M = vv.length ∧ _) (fun h => hMv h.2.1), if_neg]
    rintro ⟨_, h, _⟩
    apply hMv
    omega
end Go.Proofs.Ytakchpeohmkpkaa.Q

namespace Go.Proofs.Ytakchpeohmkpkaa.Q
open Go.RowKit Go.Proofs.YtakchpeohmkpkaaW.PrintWords Go.Proofs.YtakchpeohmkpkaaW.PrintLast Go.Proofs.YtakchpeohmkpkaaW.PrintMore
attribute [local go_sem] max2_int min2_int max_two min_two max_three min_three max_four min_four
set_option linter.unusedVariables false
set_option linter.unusedSimpArgs false

/-- n as_ so many bytes, the lowest first. -/
def leBytes (n : Int) : Nat → List Int
  | 0 => []
  | k + 1 => n % 256 :: leBytes (n / 256) k
def bits_Put.f (a0 : Int) (a1 : Int) : Option (List Int) :=
  if a1 = 1 then some (leBytes a0 1) else if a1 = 2 then some (leBytes a0 2) else if a1 = 4 then some (leBytes a0 4) else if a1 = 8 then some (leBytes a0 8) else none

theorem fresh_row (w : World) (xs : List Int) (hm : xs.length ≤ 9223372036854775807) : Kd.R (Kd.int .u8) 5 (w.alloc (.cells (encs (Value.int .u8) xs).toArray 5)) w.heap.size (fun _ => True) (.slice (some ⟨w.heap.size, 0, none⟩) xs.length xs.length) xs := by
  have h2 := World.ownsRow_lit (base := w.heap.size) (e := 5) (size := 1) w (encs (Value.int .u8) xs).toArray xs.length (Nat.le_refl _) (by simpa [maxLen] using hm) (by simp [encs])
  have h3 : (w.alloc (.cells (encs (Value.int .u8) xs).toArray 5)).ownsRow w.heap.size 5 1 (.slice (some ⟨w.heap.size, 0, none⟩) xs.length xs.length) xs.length (encs (Value.int .u8) xs) := by simpa using h2
  exact ⟨fun k hk => trivial, encs (Value.int .u8) xs, h3, Kd.reps_scalar xs⟩
theorem made (w : World) (m : Nat) (hm : m ≤ 8) : (Instr.makeSlice 34 (.int .i64 m) (.int .i64 m)).run Try.prog w = .ok (.slice (some ⟨w.heap.size, 0, none⟩) m m) (w.alloc (.cells (Array.replicate m (.int .u8 0)) 5)) := by
  obtain ⟨i0, hi, hzz⟩ := Option.map_eq_some_iff.1 info5
  simp only [Prod.mk.injEq] at hzz
  obtain ⟨hz0, hz1, hz2⟩ := hzz
  have hr := run_make (P := Try.prog) w 34 5 i0 (.int .u8 0) Try.underlying34 hi hz0 .i64 .i64 (m : Int) (m : Int) (by omega) (by omega) (by rw [hz2]; omega) (by omega)
  rw [hr, hz1]
  simp only [Int.toNat_natCast, Nat.mul_one]
  have : madeCells (Value.int .u8 0).cells m = Array.replicate m (.int .u8 0) := by
    rw [← Array.toList_inj, show (Value.int IntKind.u8 0).cells = #[Value.int .u8 0] from by simp [Value.cells], toList_madeCells_one, Array.toList_replicate]
  rw [this]

set_option maxHeartbeats 8000000 in
set_option maxRecDepth 100000 in
theorem bits_Put_1 (a0 : Int) (w : World) :
    Calls Try.prog 48 #[.int .u64 a0, .int .i64 1] w fun e w' => ∃ v0_ : Value, e = .returned (v0_) ∧ Kd.R (Kd.int .u8) 5 w' w.heap.size (fun _ => True) v0_ (leBytes a0 1) ∧ Below w.heap.size w w' := by
  have hmk := made w 1 (by omega)
  simp only [Int.cast_ofNat_Int] at hmk
  go_enter Try.func48, Try.ntmps48
  go_wp2
  go_ret
  refine ⟨_, rfl, ?_, (Below.refl _ _).alloc (Nat.le_refl _) _⟩
  have := fresh_row w (leBytes a0 1) (by simp [leBytes])
  simp [leBytes, Int.ediv_ediv_of_nonneg] at this ⊢
  exact this
set_option maxHeartbeats 8000000 in
set_option maxRecDepth 100000 in
theorem bits_Put_2 (a0 : Int) (w : World) :
    Calls Try.prog 48 #[.int .u64 a0, .int .i64 2] w fun e w' => ∃ v0_ : Value, e = .returned (v0_) ∧ Kd.R (Kd.int .u8) 5 w' w.heap.size (fun _ => True) v0_ (leBytes a0 2) ∧ Below w.heap.size w w' := by
  have hmk := made w 2 (by omega)
  simp only [Int.cast_ofNat_Int] at hmk
  go_enter Try.func48, Try.ntmps48
  go_wp2
  go_ret
  refine ⟨_, rfl, ?_, (Below.refl _ _).alloc (Nat.le_refl _) _⟩
  have := fresh_row w (leBytes a0 2) (by simp [leBytes])
  simp [leBytes, Int.ediv_ediv_of_nonneg] at this ⊢
  exact this
set_option maxHeartbeats 8000000 in
set_option maxRecDepth 100000 in
theorem bits_Put_4 (a0 : Int) (w : World) :
    Calls Try.prog 48 #[.int .u64 a0, .int .i64 4] w fun e w' => ∃ v0_ : Value, e = .returned (v0_) ∧ Kd.R (Kd.int .u8) 5 w' w.heap.size (fun _ => True) v0_ (leBytes a0 4) ∧ Below w.heap.size w w' := by
  have hmk := made w 4 (by omega)
  simp only [Int.cast_ofNat_Int] at hmk
  go_enter Try.func48, Try.ntmps48
  go_wp2
  go_ret
  refine ⟨_, rfl, ?_, (Below.refl _ _).alloc (Nat.le_refl _) _⟩
  have := fresh_row w (leBytes a0 4) (by simp [leBytes])
  simp [leBytes, Int.ediv_ediv_of_nonneg] at this ⊢
  exact this
set_option maxHeartbeats 8000000 in
set_option maxRecDepth 100000 in
theorem bits_Put_8 (a0 : Int) (w : World) :
    Calls Try.prog 48 #[.int .u64 a0, .int .i64 8] w fun e w' => ∃ v0_ : Value, e = .returned (v0_) ∧ Kd.R (Kd.int .u8) 5 w' w.heap.size (fun _ => True) v0_ (leBytes a0 8) ∧ Below w.heap.size w w' := by
  have hmk := made w 8 (by omega)
  simp only [Int.cast_ofNat_Int] at hmk
  go_enter Try.func48, Try.ntmps48
  go_wp2
  go_ret
  refine ⟨_, rfl, ?_, (Below.refl _ _).alloc (Nat.le_refl _) _⟩
  have := fresh_row w (leBytes a0 8) (by simp [leBytes])
  simp [leBytes, Int.ediv_ediv_of_nonneg] at this ⊢
  exact this
theorem bits_Put.calls (a0 : Int) (a1 : Int) (r : List Int) (w : World) (h : bits_Put.f a0 a1 = some r) :
    Calls Try.prog 48 #[.int .u64 a0, .int .i64 a1] w fun e w' => ∃ v0_ : Value, e = .returned (v0_) ∧ Kd.R (Kd.int .u8) 5 w' w.heap.size (fun _ => True) v0_ r ∧ Below w.heap.size w w' := by
  unfold bits_Put.f at h
  split at h
  · subst a1; cases h; exact bits_Put_1 a0 w
  split at h
  · subst a1; cases h; exact bits_Put_2 a0 w
  split at h
  · subst a1; cases h; exact bits_Put_4 a0 w
  split at h
  · subst a1; cases h; exact bits_Put_8 a0 w
  cases h
end Go.Proofs.Ytakchpeohmkpkaa.Q

namespace Go.Proofs.Ytakchpeohmkpkaa.Q
open Go.RowKit Go.Proofs.YtakchpeohmkpkaaW.PrintWords Go.Proofs.YtakchpeohmkpkaaW.PrintLast Go.Proofs.YtakchpeohmkpkaaW.PrintMore
set_option linter.unusedVariables false
set_option linter.unusedSimpArgs false

/-- The writer at block g holds the bytes xs. -/
structure Writer (w : World) (base g : Nat) (v : Value) (xs : List Int) : Prop where
  blk : w.heap[g]? = some (.cells #[v] 69 (0, 0))
  row : Kd.R (Kd.int .u8) 5 w base (fun _ => True) v xs
  base_le : base ≤ g

theorem Writer.cell {w : World} {base g : Nat} {v : Value} {xs : List Int} (h : Writer w base g v xs) : w.cell? ⟨g, 0, none⟩ = some v := by simp [World.cell?, h.blk]
theorem Writer.lt {w : World} {base g : Nat} {v : Value} {xs : List Int} (h : Writer w base g v xs) : g < w.heap.size := World.block_lt_of_cell? w _ h.cell
theorem Writer.below {w w1 : World} {base g : Nat} {v : Value} {xs : List Int} (h : Writer w base g v xs) (hb : Below w.heap.size w w1) : Writer w1 base g v xs :=
  ⟨by rw [hb.block g h.lt]; exact h.blk, Kd.R_below h.row hb, h.base_le⟩
theorem Writer.ne {w : World} {base g : Nat} {v : Value} {xs : List Int} (h : Writer w base g v xs) : some g ≠ v.ownBlock := Kd.R_ne h.row h.blk (by decide)
/-- The row has been grown and laid into the field. -/
theorem Writer.stored {w w1 : World} {base g : Nat} {v v1 : Value} {xs zs : List Int} (h : Writer w base g v xs) (hg : w.grownBy w1 v.ownBlock) (ho : Kd.R (Kd.int .u8) 5 w1 base (fun _ => True) v1 zs) : w1.cell? ⟨g, 0, none⟩ = some v ∧ w1.frozen? ⟨g, 0, none⟩ = false ∧ Writer (w1.setCell ⟨g, 0, none⟩ v1) base g v1 zs := by
  have hb : w1.heap[g]? = some (.cells #[v] 69 (0, 0)) := by rw [hg.block g h.lt h.ne]; exact h.blk
  refine ⟨by simp [World.cell?, hb], by simp [World.frozen?, hb], ⟨?_, Kd.R_set ho hb (by decide) 0 v1, h.base_le⟩⟩
  simpa using heap_setCell_same w1 g 0 #[v] 69 v1 hb

/-- Blocks that hold no bytes stay, but for g. -/
def Stays (w w' : World) (g : Nat) : Prop := ∀ b cs t, t ≠ 5 → b ≠ g → w.heap[b]? = some (.cells cs t (0, 0)) → w'.heap[b]? = some (.cells cs t (0, 0))
theorem Stays.grown {w w1 w2 : World} {base g : Nat} {v : Value} {xs : List Int} (hb : Below w.heap.size w w1) (hg : w1.grownBy w2 v.ownBlock) (hr : Kd.R (Kd.int .u8) 5 w1 base (fun _ => True) v xs) : Stays w w2 g := by
  intro b cs t ht hbg h
  have hlt : b < w.heap.size := (Array.getElem?_eq_some_iff.1 h).1
  have h1 : w1.heap[b]? = some (.cells cs t (0, 0)) := (hb.block b hlt).trans h
  exact (hg.block b (Nat.lt_of_lt_of_le hlt hb.size) (Kd.R_ne hr h1 (fun e => ht e.symm))).trans h1
theorem Stays.set {w w1 : World} {g : Nat} (h : Stays w w1 g) (j : Nat) (u : Value) : Stays w (w1.setCell ⟨g, j, none⟩ u) g :=
  fun b cs t ht hbg hb => (Below.heap_setCell w1 ⟨g, j, none⟩ u b hbg).trans (h b cs t ht hbg hb)
section
variable {P : Program} {ops : Array Oper} {rest : List Oper} {o : Oper} {a : Act} {Q : Exit → Act → World → Prop} {Kc : Act → World → Prop}
/-- append(row, text...) of a row of one's own, run. -/
theorem run_append_str {W : World} (base : Nat) (t u ty e : TypeId) (ht : P.underlying t = some (.slice e)) (hu : P.underlying u = some .string) (hinfo : (P.info? e).map (fun i => (i.zero, i.size, i.bytes)) = some (some (.int .u8 0), 1, 1))
    (v : Value) (xs : List Int) (y : ByteArray) (HO : Kd.R (Kd.int .u8) e W base (fun _ => True) v xs) (hbase : base ≤ W.heap.size) (hl : xs.length + y.size ≤ 140737488355328) :
    ∃ v1 w1, (Builtin.append_ #[t, u] ty #[v, .string y]).run P W = .ok v1 w1 ∧ Kd.R (Kd.int .u8) e w1 base (fun _ => True) v1 (xs ++ bytesOf y) ∧ W.grownBy w1 v.ownBlock := by
  obtain ⟨i0, hi, hzz⟩ := Option.map_eq_some_iff.1 hinfo
  simp only [Prod.mk.injEq] at hzz
  obtain ⟨hz0, hz1, hz2⟩ := hzz
  obtain ⟨v1, w1, hr, h2, h3, _⟩ := Lib.run_append_own_string (P := P) W base t u ty e i0 ht hu hi hz0 hz1 hz2 v xs.length _ (Kd.own_of_R HO) y (by simp only [maxLen]; omega) hl hbase
  refine ⟨v1, w1, hr, Kd.R_of_own ?_ (fun _ _ => trivial), h3⟩
  have hl2 : (xs ++ bytesOf y).length = xs.length + y.size := by rw [List.length_append, bytesOf_length]
  have hc : encs (Value.int .u8) (xs ++ bytesOf y) = encs (Value.int .u8) xs ++ Lib.strCells y := by
    simp [encs, bytesOf, Lib.strCells]
  rw [hl2, hc]
  exact h2
theorem str_append_step {W : World} (base : Nat) (hw : Region.wanted o (yielded ops a.tmps) = true) (s x : Operand) (t u e : TypeId) (ho : o.op = .call { callee := .builtin .append, args := #[s, x], argTypes := #[t, u] })
    (ht : P.underlying t = some (.slice e)) (hu : P.underlying u = some .string) (hinfo : (P.info? e).map (fun i => (i.zero, i.size, i.bytes)) = some (some (.int .u8 0), 1, 1))
    (v : Value) (xs : List Int) (y : ByteArray) (hs : a.eval s = v) (hx : a.eval x = .string y) (HO : Kd.R (Kd.int .u8) e W base (fun _ => True) v xs) (hbase : base ≤ W.heap.size) (hl : xs.length + y.size ≤ 140737488355328)
    (h : ∀ v1 w1, Kd.R (Kd.int .u8) e w1 base (fun _ => True) v1 (xs ++ bytesOf y) → W.grownBy w1 v.ownBlock → Kc (a.put o.dst v1) w1) : if Region.wanted o (yielded ops a.tmps) = true then Oper.wp P o a W Kc Q else Kc (a.put o.dst undef) W := by
  obtain ⟨v', w', hr, h2, h3⟩ := run_append_str (P := P) base t u o.type e ht hu hinfo v xs y HO hbase hl
  refine event_step hw (v := v') (w1 := w') ?_ (h v' w' h2 h3)
  unfold execOp
  simp only [ho, resolve, invoke, builtin, Sem.run_bind, Sem.run_pure, Result.andThen_ok, List.map_toArray, List.map_cons, List.map_nil, hs, hx, hr]
end

set_option maxHeartbeats 8000000 in
set_option maxRecDepth 100000 in
theorem put_calls (base g : Nat) (v : Value) (xs ys : List Int) (n k : Int) (w : World) (hw : Writer w base g v xs) (hl : xs.length ≤ 1000000) (hy : ys.length ≤ 8) (h : bits_Put.f (IntKind.u64.wrap n) k = some ys) :
    Calls Try.prog 46 #[.pointer (some ⟨g, 0, none⟩), .int .i64 n, .int .i64 k] w fun e w' => e = .returned (.tuple #[]) ∧ ∃ v', Writer w' base g v' (xs ++ ys) ∧ Below base w w' ∧ Stays w w' g := by
  have hc := hw.cell
  have HW := Aside0.mk hw
  have HP := Aside0.mk h
  clear hw h
  go_enter Try.func46, Try.ntmps46
  go_region_law (first
    | (refine goes_ Try.func48 (by kernel_rfl) rfl #[.int .u64 (IntKind.u64.wrap n), .int .i64 k] (by rfl) rfl rfl (by first | rfl | (simp [Act.eval, Act.put]; done) | (simp [Act.eval]; done)) ?_
       refine (bits_Put.calls _ _ _ _ HP.out).mono ?_
       rintro e w1 ⟨v0, rfl, ho0, hb0⟩
       refine ⟨_, rfl, ?_⟩
       obtain ⟨A0, c0, rfl, hc0, hr0⟩ := Kd.R_reads ho0
       have hb1 : Below w.heap.size w w1 := (below_drew (Below.refl w.heap.size w)).trans hb0
       have HW1 := Aside0.mk (HW.out.below hb1)
       have hc1 := HW1.out.cell
       have HR0 := Aside0.mk hr0
       have HB0 := Aside0.mk hb1
       clear ho0 hb0 hb1 hr0)
    | (refine Kd.R_append_rows_step (Kd.int .u8) (w0 := w) base rfl (.tmp 10) (.tmp 14) 34 5 (.int .u8 0) 1 rfl Try.underlying34 info5 rfl (by decide) (by omega) v xs ys A0 _ c0 (fun _ => True) (fun _ => False) (by first | rfl | (simp [Act.eval]; done)) (by first | rfl | (simp [Act.eval]; done)) HW1.out.row HR0.out (fun x cs hx => hx) (fun _ hk => hk.elim) (fun _ _ => trivial) (HB0.out.mono (by have := HW.out.base_le; have := HW.out.lt; omega)) (by have := HW.out.base_le; have := HW1.out.lt; omega) (by omega) ?_
       intro v1 w2 ho hb hg hat
       obtain ⟨A1, c1, rfl⟩ := Kd.R_slice ho
       obtain ⟨hc2, hf2, hw2⟩ := HW1.out.stored hg ho
       have HW2 := Aside0.mk hw2
       have HB2 := Aside0.mk hb
       have HK2 := Aside0.mk (Stays.grown (g := g) HB0.out hg HW1.out.row)
       clear hw2 hb hg hat ho))
  all_goals
    go_end0
    have hh := HW2.out
    rw [List.length_append] at hh
    exact ⟨rfl, _, hh, HB2.out.setCell HW.out.base_le _, HK2.out.set _ _⟩
end Go.Proofs.Ytakchpeohmkpkaa.Q

namespace Go.Proofs.Ytakchpeohmkpkaa.Q
open Go.RowKit Go.Proofs.YtakchpeohmkpkaaW.PrintWords Go.Proofs.YtakchpeohmkpkaaW.PrintLast Go.Proofs.YtakchpeohmkpkaaW.PrintMore
set_option linter.unusedVariables false
set_option linter.unusedSimpArgs false

theorem Writer.fresh (w : World) : Writer (w.alloc (.cells #[.slice none 0 0] 69)) w.heap.size w.heap.size (.slice none 0 0) [] :=
  ⟨by show (w.heap.push _)[w.heap.size]? = _; rw [Array.getElem?_push_size], Kd.R_nil _ _ _ _ _, Nat.le_refl _⟩
theorem u64_wrap {n : Int} (h0 : 0 ≤ n) (h1 : n < 18446744073709551616) : IntKind.u64.wrap n = n := by
  rw [IntKind.wrap_u64]
  omega

def node_Mark.f (a0 a1 : Int) : Option (List Int × Int) := if a1 < 1 ∨ 16 < a1 then some ([], 22) else some (leBytes 3 1 ++ leBytes a0 8 ++ leBytes a1 1, 0)
set_option maxHeartbeats 8000000 in
set_option maxRecDepth 100000 in
theorem node_Mark.calls (a0 : Int) (a1 : Int) (r1 : List Int) (r2 : Int) (w : World) (h : node_Mark.f a0 a1 = some (r1, r2)) :
    Calls Try.prog 20 #[.int .u64 a0, .int .i64 a1] w fun e w' => ∃ v0_ : Value, e = .returned (.tuple #[v0_, .int .i64 r2]) ∧ Kd.R (Kd.int .u8) 5 w' w.heap.size (fun _ => True) v0_ r1 ∧ Below w.heap.size w w' := by
  unfold node_Mark.f at h
  split at h
  · cases h
    rename_i hc
    have hd : decide (a1 < 1) = true ∨ decide (a1 < 1) = false ∧ decide (16 < a1) = true := by
      by_cases h1 : a1 < 1
      · exact .inl (decide_eq_true h1)
      · exact .inr ⟨decide_eq_false h1, decide_eq_true (by omega)⟩
    rcases hd with hd | ⟨hd, he⟩
    · go_enter Try.func20, Try.ntmps20
      go_wp2
      go_ret2
      exact ⟨_, rfl, Kd.R_nil _ _ _ _ _, Below.refl _ _⟩
    · go_enter Try.func20, Try.ntmps20
      go_wp2
      go_ret2
      exact ⟨_, rfl, Kd.R_nil _ _ _ _ _, Below.refl _ _⟩
  · cases h
    rename_i hc
    have hd : decide (a1 < 1) = false := decide_eq_false (by omega)
    have he : decide (16 < a1) = false := decide_eq_false (by omega)
    have HW0 := Aside0.mk (Writer.fresh w)
    have hc0 := HW0.out.cell
    go_enter Try.func20, Try.ntmps20
    go_wp2_with (first
      | (go_at_call 46; refine (put_calls w.heap.size w.heap.size _ [] (leBytes 3 1) 3 1 _ HW0.out (by simp) (by simp [leBytes]) rfl).mono ?_; rintro e w1 ⟨rfl, v1, hw1, hb1, _⟩))
    have HW1 := Aside0.mk hw1
    have HB1 := Aside0.mk ((Below.refl w.heap.size w).alloc (Nat.le_refl _) (.cells #[.slice none 0 0] 69) |>.trans hb1)
    have hc1 := hw1.cell
    clear hw1 hb1 hc0 HW0
    go_region_law (first
      | (refine goes_ Try.func48 (by kernel_rfl) rfl #[.int .u64 a0, .int .i64 8] (by rfl) rfl rfl (by first | rfl | (simp [Act.eval, Act.put]; done) | (simp [Act.eval]; done)) ?_
         refine (bits_Put.calls a0 8 (leBytes a0 8) _ rfl).mono ?_
         rintro e w2 ⟨v0, rfl, ho0, hb0⟩
         refine ⟨_, rfl, ?_⟩
         obtain ⟨A0, c0, rfl, hc0, hr0⟩ := Kd.R_reads ho0
         have hb2 : Below w1.heap.size w1 w2 := (below_drew (Below.refl w1.heap.size w1)).trans hb0
         have HW2 := Aside0.mk (HW1.out.below hb2)
         have hc2 := HW2.out.cell
         have HR0 := Aside0.mk hr0
         have HB2 := Aside0.mk (HB1.out.trans (hb2.mono HB1.out.size))
         clear ho0 hb0 hb2 hr0)
      | (refine Kd.R_append_rows_step (Kd.int .u8) (w0 := w) w.heap.size rfl (.tmp 21) (.tmp 23) 34 5 (.int .u8 0) 1 rfl Try.underlying34 info5 rfl (by decide) (by omega) v1 _ (leBytes a0 8) A0 _ c0 (fun _ => True) (fun _ => False) (by first | rfl | (simp [Act.eval]; done)) (by first | rfl | (simp [Act.eval]; done)) HW2.out.row HR0.out (fun x cs hx => hx) (fun _ hk => hk.elim) (fun _ _ => trivial) HB2.out HB2.out.size (by simp [leBytes]) ?_
         intro v2 w3 ho hb hg hat
         obtain ⟨A1, c1, rfl⟩ := Kd.R_slice ho
         obtain ⟨hc3, hf3, hw3⟩ := HW2.out.stored hg ho
         have HW3 := Aside0.mk hw3
         have HB3 := Aside0.mk (hb.setCell (p := ⟨w.heap.size, 0, none⟩) (Nat.le_refl _) (.slice A1 ([] ++ leBytes 3 1 ++ leBytes a0 8).length c1))
         clear hw3 hb hg hat ho))
    all_goals
      have hw4 := HW3.out
      have hb4 := HB3.out
      simp only [List.nil_append, List.length_append] at hw4 hb4
      clear HW3 HB3 HW2 HB2 hc3 hf3 hc2 hc1 HW1 HB1 HR0 hc0
      generalize w3.setCell _ _ = w4 at hw4 hb4 ⊢
      go_wp2_with (first
        | (go_at_call 46; refine (put_calls w.heap.size w.heap.size _ _ (leBytes a1 1) a1 1 _ hw4 (by simp [leBytes]) (by simp [leBytes]) (by rw [u64_wrap (by omega) (by omega)]; rfl)).mono ?_; rintro e w5 ⟨rfl, v5, hw5, hb5, _⟩; have hc5 := hw5.cell))
      go_ret2
      exact ⟨_, rfl, hw5.row, hb4.trans hb5⟩
end Go.Proofs.Ytakchpeohmkpkaa.Q

namespace Go.Proofs.Ytakchpeohmkpkaa.Q
open Go.RowKit Go.Proofs.YtakchpeohmkpkaaW.PrintWords Go.Proofs.YtakchpeohmkpkaaW.PrintLast Go.Proofs.YtakchpeohmkpkaaW.PrintMore
set_option linter.unusedVariables false
set_option linter.unusedSimpArgs false

def packed (k v : ByteArray) (g : Bool) : List Int := leBytes (if g then 2 else 1) 1 ++ leBytes k.size 1 ++ bytesOf k ++ leBytes v.size 2 ++ bytesOf v
def node_Pack.f (k v : ByteArray) (g : Bool) : Option (List Int × Int) := (node_Right.f k v g).bind fun b => if b = true then some (packed k v g, 0) else some ([], 22)

theorem right_sizes {k v : ByteArray} {g : Bool} (h : node_Right.f k v g = some true) : 1 ≤ k.size ∧ k.size ≤ 64 ∧ v.size ≤ 256 := by
  unfold node_Right.f at h
  by_cases h1 : (k.size : Int) ≥ 1
  · rw [if_pos h1] at h
    by_cases h2 : (k.size : Int) ≤ 64
    · rw [if_pos h2] at h
      by_cases h3 : (v.size : Int) ≤ 256
      · omega
      · rw [if_neg h3] at h; cases h
    · rw [if_neg h2] at h; cases h
  · rw [if_neg h1] at h; cases h

set_option maxHeartbeats 8000000 in
set_option maxRecDepth 100000 in
theorem pack_refused (k v : ByteArray) (g : Bool) (w : World) (h : node_Right.f k v g = some false) :
    Calls Try.prog 18 #[.agg #[.string k, .string v, .bool g]] w fun e w' => ∃ v0_ : Value, e = .returned (.tuple #[v0_, .int .i64 22]) ∧ Kd.R (Kd.int .u8) 5 w' w.heap.size (fun _ => True) v0_ [] ∧ Below w.heap.size w w' := by
  have hu32 := Try.underlying32
  have HR := Aside0.mk h
  clear h
  go_enter Try.func18, Try.ntmps18
  go_wp2_with (first
    | (go_at_call 22; refine (node_Right.calls k v g false _ HR.out).mono ?_; rintro e w1 ⟨rfl, hb1⟩))
  go_ret2
  exact ⟨_, rfl, Kd.R_nil _ _ _ _ _, (Below.refl _ _).alloc (Nat.le_refl _) _ |>.trans (hb1.mono (by simp))⟩

/-- A node lies at block b. -/
def NodeAt (w : World) (b : Nat) (k v : ByteArray) (g : Bool) : Prop := w.heap[b]? = some (.cells #[.string k, .string v, .bool g] 32 (0, 0))
theorem NodeAt.fresh (w : World) (k v : ByteArray) (g : Bool) : NodeAt (w.alloc (.cells #[.string k, .string v, .bool g] 32)) w.heap.size k v g := by
  show (w.heap.push _)[w.heap.size]? = _
  rw [Array.getElem?_push_size]
theorem NodeAt.lt {w : World} {b : Nat} {k v : ByteArray} {g : Bool} (h : NodeAt w b k v g) : b < w.heap.size := (Array.getElem?_eq_some_iff.1 h).1
theorem NodeAt.below {w w1 : World} {B b : Nat} {k v : ByteArray} {g : Bool} (h : NodeAt w b k v g) (hb : Below B w w1) (hB : b < B) : NodeAt w1 b k v g := (hb.block b hB).trans h
theorem NodeAt.alloc {w : World} {b : Nat} {k v : ByteArray} {g : Bool} (h : NodeAt w b k v g) (o : Obj) : NodeAt (w.alloc o) b k v g := h.below (below_alloc (Below.refl _ _) o) h.lt
theorem NodeAt.cells {w : World} {b : Nat} {k v : ByteArray} {g : Bool} (h : NodeAt w b k v g) : w.cell? ⟨b, 0, none⟩ = some (.string k) ∧ w.cell? ⟨b, 1, none⟩ = some (.string v) ∧ w.cell? ⟨b, 2, none⟩ = some (.bool g) := by
  unfold NodeAt at h
  simp [World.cell?, h]

set_option maxHeartbeats 8000000 in
set_option maxRecDepth 100000 in
theorem pack_true (k v : ByteArray) (w : World) (h : node_Right.f k v true = some true) :
    Calls Try.prog 18 #[.agg #[.string k, .string v, .bool true]] w fun e w' => ∃ v0_ : Value, e = .returned (.tuple #[v0_, .int .i64 0]) ∧ Kd.R (Kd.int .u8) 5 w' w.heap.size (fun _ => True) v0_ (packed k v true) ∧ Below w.heap.size w w' := by
  have hu32 := Try.underlying32
  obtain ⟨hk1, hk2, hv⟩ := right_sizes h
  have HR := Aside0.mk h
  clear h
  have HPa := Aside0.mk (show bits_Put.f (IntKind.u64.wrap 2) 1 = some (leBytes 2 1) from rfl)
  have HPb := Aside0.mk (show bits_Put.f (IntKind.u64.wrap (k.size : Int)) 1 = some (leBytes k.size 1) by rw [u64_wrap (by omega) (by omega)]; rfl)
  have HPc := Aside0.mk (show bits_Put.f (IntKind.u64.wrap (v.size : Int)) 2 = some (leBytes v.size 2) by rw [u64_wrap (by omega) (by omega)]; rfl)
  have HLa := Aside0.mk (show ([] : List Int).length ≤ 1000000 by simp)
  have HLb := Aside0.mk (show ([] ++ leBytes 2 1 : List Int).length ≤ 1000000 by simp [leBytes])
  have HMa := Aside0.mk (show (leBytes 2 1).length ≤ 8 by simp [leBytes])
  have HMb := Aside0.mk (show (leBytes k.size 1).length ≤ 8 by simp [leBytes])
  have HMc := Aside0.mk (show (leBytes v.size 2).length ≤ 8 by simp [leBytes])
  go_enter Try.func18, Try.ntmps18
  go_wp2_with (first
    | (go_at_call 22; refine (node_Right.calls k v true true _ HR.out).mono ?_; rintro e w1 ⟨rfl, hb1⟩
       have HW1 := Aside0.mk (Writer.fresh w1); have hc1 := HW1.out.cell
       have HN1 := Aside0.mk ((NodeAt.fresh w k v true).below hb1 (by simp))
       have HB1 := Aside0.mk ((below_alloc (Below.refl w.heap.size w) (.cells #[.string k, .string v, .bool true] 32)).trans (hb1.mono (by simp)))
       obtain ⟨n1a, n1b, n1c⟩ := (HN1.out.alloc (.cells #[.slice none 0 0] 69)).cells
       clear hb1)
    | (go_at_call 46; (with_reducible refine (put_calls w1.heap.size w1.heap.size _ [] (leBytes 2 1) 2 1 _ HW1.out HLa.out HMa.out HPa.out).mono ?_); rintro e w2 ⟨rfl, v2, hw2, hb2, _⟩
       have HW2 := Aside0.mk hw2; have hc2 := HW2.out.cell; have HB2 := Aside0.mk ((below_alloc (Below.refl w1.heap.size w1) (.cells #[.slice none 0 0] 69)).trans hb2)
       have HN2 := Aside0.mk (HN1.out.below HB2.out HN1.out.lt)
       obtain ⟨n2a, n2b, n2c⟩ := HN2.out.cells
       clear hw2 hb2 hc1 n1a n1b n1c)
    | (go_at_call 46; (with_reducible refine (put_calls w1.heap.size w1.heap.size _ _ (leBytes k.size 1) k.size 1 _ HW2.out HLb.out HMb.out HPb.out).mono ?_); rintro e w3 ⟨rfl, v3, hw3, hb3, _⟩
       have HW3 := Aside0.mk hw3; have hc3 := HW3.out.cell; have HB3 := Aside0.mk (HB2.out.trans hb3)
       have HN3 := Aside0.mk (HN1.out.below HB3.out HN1.out.lt)
       obtain ⟨n3a, n3b, n3c⟩ := HN3.out.cells
       clear hw3 hb3 hc2 n2a n2b n2c))
  go_region_law (
       refine str_append_step (W := w3.drew) w1.heap.size (by rfl) (.tmp 25) (.tmp 27) 34 9 5 rfl Try.underlying34 Try.underlying9 info5 v3 _ k (by first | rfl | (simp [Act.eval]; done)) (by first | rfl | (simp [Act.eval]; done)) (Kd.R_drew HW3.out.row) HB3.out.size (by simp [leBytes]; omega) ?_
       intro v4 w4 ho hg
       obtain ⟨A4, c4, hv4⟩ := Kd.R_slice ho
       obtain ⟨xs4, hx4⟩ : ∃ xs, xs = [] ++ leBytes 2 1 ++ leBytes k.size 1 ++ bytesOf k := ⟨_, rfl⟩
       rw [← hx4] at ho hv4
       obtain ⟨n4, hn4⟩ : ∃ n, n = xs4.length := ⟨_, rfl⟩
       rw [← hn4] at hv4
       subst hv4
       obtain ⟨hc4, hf4, hw4⟩ := (Writer.below HW3.out (below_drew (Below.refl _ _))).stored hg ho
       have hbb : Below w1.heap.size w1 w4 := (below_drew HB3.out).grown hg HB3.out.size (own_base (Kd.own_of_R HW3.out.row))
       have HB4 := Aside0.mk (hbb.setCell (p := ⟨w1.heap.size, 0, none⟩) (Nat.le_refl _) (.slice A4 n4 c4))
       have HW4 := Aside0.mk hw4; have hd4 := HW4.out.cell
       obtain ⟨n4a, n4b, n4c⟩ := (HN1.out.below hbb HN1.out.lt).cells
       have HN4 := Aside0.mk (HN1.out.below HB4.out HN1.out.lt)
       obtain ⟨m4a, m4b, m4c⟩ := HN4.out.cells
       have HX4 := Aside0.mk hx4
       have HLd := Aside0.mk (show xs4.length ≤ 1000000 by rw [hx4]; simp [leBytes, bytesOf_length]; omega)
       have HL4 := Aside0.mk hn4
       clear ho hg hw4 hbb hc3 n3a n3b n3c hx4 hn4)
  all_goals
   go_wp2_with (first
    | (go_at_call 46; (with_reducible refine (put_calls w1.heap.size w1.heap.size _ _ (leBytes v.size 2) v.size 2 _ HW4.out HLd.out HMc.out HPc.out).mono ?_); rintro e w5 ⟨rfl, v5, hw5, hb5, _⟩
       have HW5 := Aside0.mk hw5; have hc5 := HW5.out.cell; have HB5 := Aside0.mk (HB4.out.trans hb5)
       have HN5 := Aside0.mk (HN1.out.below HB5.out HN1.out.lt)
       obtain ⟨n5a, n5b, n5c⟩ := HN5.out.cells
       clear hw5 hb5 hd4 hc4 hf4 n4a n4b n4c m4a m4b m4c))
   go_region_law (
      refine str_append_step (W := w5.drew) w1.heap.size (by rfl) (.tmp 39) (.tmp 41) 34 9 5 rfl Try.underlying34 Try.underlying9 info5 v5 (xs4 ++ leBytes v.size 2) v (by first | rfl | (simp [Act.eval]; done)) (by first | rfl | (simp [Act.eval]; done)) (Kd.R_drew HW5.out.row) HB5.out.size (by rw [HX4.out]; simp [leBytes, bytesOf_length]; omega) ?_
      intro v6 w6 ho hg
      have HO6 := Aside0.mk ho
      have HB6 := Aside0.mk ((below_drew HB5.out).grown hg HB5.out.size (own_base (Kd.own_of_R HW5.out.row)))
      clear ho hg)
   all_goals
    go_wp2
    go_ret2
    refine ⟨v6, rfl, ?_, HB1.out.trans (HB6.out.mono HB1.out.size)⟩
    have h6 := Kd.R_lower HO6.out HB1.out.size
    rw [HX4.out] at h6
    simpa [packed, List.append_assoc] using h6

set_option maxHeartbeats 8000000 in
set_option maxRecDepth 100000 in
theorem pack_false (k v : ByteArray) (w : World) (h : node_Right.f k v false = some true) :
    Calls Try.prog 18 #[.agg #[.string k, .string v, .bool false]] w fun e w' => ∃ v0_ : Value, e = .returned (.tuple #[v0_, .int .i64 0]) ∧ Kd.R (Kd.int .u8) 5 w' w.heap.size (fun _ => True) v0_ (packed k v false) ∧ Below w.heap.size w w' := by
  have hu32 := Try.underlying32
  obtain ⟨hk1, hk2, hv⟩ := right_sizes h
  have HR := Aside0.mk h
  clear h
  have HPa := Aside0.mk (show bits_Put.f (IntKind.u64.wrap 1) 1 = some (leBytes 1 1) from rfl)
  have HPb := Aside0.mk (show bits_Put.f (IntKind.u64.wrap (k.size : Int)) 1 = some (leBytes k.size 1) by rw [u64_wrap (by omega) (by omega)]; rfl)
  have HPc := Aside0.mk (show bits_Put.f (IntKind.u64.wrap (v.size : Int)) 2 = some (leBytes v.size 2) by rw [u64_wrap (by omega) (by omega)]; rfl)
  have HLa := Aside0.mk (show ([] : List Int).length ≤ 1000000 by simp)
  have HLb := Aside0.mk (show ([] ++ leBytes 1 1 : List Int).length ≤ 1000000 by simp [leBytes])
  have HMa := Aside0.mk (show (leBytes 1 1).length ≤ 8 by simp [leBytes])
  have HMb := Aside0.mk (show (leBytes k.size 1).length ≤ 8 by simp [leBytes])
  have HMc := Aside0.mk (show (leBytes v.size 2).length ≤ 8 by simp [leBytes])
  go_enter Try.func18, Try.ntmps18
  go_wp2_with (first
    | (go_at_call 22; refine (node_Right.calls k v false true _ HR.out).mono ?_; rintro e w1 ⟨rfl, hb1⟩
       have HW1 := Aside0.mk (Writer.fresh w1); have hc1 := HW1.out.cell
       have HN1 := Aside0.mk ((NodeAt.fresh w k v false).below hb1 (by simp))
       have HB1 := Aside0.mk ((below_alloc (Below.refl w.heap.size w) (.cells #[.string k, .string v, .bool false] 32)).trans (hb1.mono (by simp)))
       obtain ⟨n1a, n1b, n1c⟩ := (HN1.out.alloc (.cells #[.slice none 0 0] 69)).cells
       clear hb1)
    | (go_at_call 46; (with_reducible refine (put_calls w1.heap.size w1.heap.size _ [] (leBytes 1 1) 1 1 _ HW1.out HLa.out HMa.out HPa.out).mono ?_); rintro e w2 ⟨rfl, v2, hw2, hb2, _⟩
       have HW2 := Aside0.mk hw2; have hc2 := HW2.out.cell; have HB2 := Aside0.mk ((below_alloc (Below.refl w1.heap.size w1) (.cells #[.slice none 0 0] 69)).trans hb2)
       have HN2 := Aside0.mk (HN1.out.below HB2.out HN1.out.lt)
       obtain ⟨n2a, n2b, n2c⟩ := HN2.out.cells
       clear hw2 hb2 hc1 n1a n1b n1c)
    | (go_at_call 46; (with_reducible refine (put_calls w1.heap.size w1.heap.size _ _ (leBytes k.size 1) k.size 1 _ HW2.out HLb.out HMb.out HPb.out).mono ?_); rintro e w3 ⟨rfl, v3, hw3, hb3, _⟩
       have HW3 := Aside0.mk hw3; have hc3 := HW3.out.cell; have HB3 := Aside0.mk (HB2.out.trans hb3)
       have HN3 := Aside0.mk (HN1.out.below HB3.out HN1.out.lt)
       obtain ⟨n3a, n3b, n3c⟩ := HN3.out.cells
       clear hw3 hb3 hc2 n2a n2b n2c))
  go_region_law (
       refine str_append_step (W := w3.drew) w1.heap.size (by rfl) (.tmp 25) (.tmp 27) 34 9 5 rfl Try.underlying34 Try.underlying9 info5 v3 _ k (by first | rfl | (simp [Act.eval]; done)) (by first | rfl | (simp [Act.eval]; done)) (Kd.R_drew HW3.out.row) HB3.out.size (by simp [leBytes]; omega) ?_
       intro v4 w4 ho hg
       obtain ⟨A4, c4, hv4⟩ := Kd.R_slice ho
       obtain ⟨xs4, hx4⟩ : ∃ xs, xs = [] ++ leBytes 1 1 ++ leBytes k.size 1 ++ bytesOf k := ⟨_, rfl⟩
       rw [← hx4] at ho hv4
       obtain ⟨n4, hn4⟩ : ∃ n, n = xs4.length := ⟨_, rfl⟩
       rw [← hn4] at hv4
       subst hv4
       obtain ⟨hc4, hf4, hw4⟩ := (Writer.below HW3.out (below_drew (Below.refl _ _))).stored hg ho
       have hbb : Below w1.heap.size w1 w4 := (below_drew HB3.out).grown hg HB3.out.size (own_base (Kd.own_of_R HW3.out.row))
       have HB4 := Aside0.mk (hbb.setCell (p := ⟨w1.heap.size, 0, none⟩) (Nat.le_refl _) (.slice A4 n4 c4))
       have HW4 := Aside0.mk hw4; have hd4 := HW4.out.cell
       obtain ⟨n4a, n4b, n4c⟩ := (HN1.out.below hbb HN1.out.lt).cells
       have HN4 := Aside0.mk (HN1.out.below HB4.out HN1.out.lt)
       obtain ⟨m4a, m4b, m4c⟩ := HN4.out.cells
       have HX4 := Aside0.mk hx4
       have HLd := Aside0.mk (show xs4.length ≤ 1000000 by rw [hx4]; simp [leBytes, bytesOf_length]; omega)
       have HL4 := Aside0.mk hn4
       clear ho hg hw4 hbb hc3 n3a n3b n3c hx4 hn4)
  all_goals
   go_wp2_with (first
    | (go_at_call 46; (with_reducible refine (put_calls w1.heap.size w1.heap.size _ _ (leBytes v.size 2) v.size 2 _ HW4.out HLd.out HMc.out HPc.out).mono ?_); rintro e w5 ⟨rfl, v5, hw5, hb5, _⟩
       have HW5 := Aside0.mk hw5; have hc5 := HW5.out.cell; have HB5 := Aside0.mk (HB4.out.trans hb5)
       have HN5 := Aside0.mk (HN1.out.below HB5.out HN1.out.lt)
       obtain ⟨n5a, n5b, n5c⟩ := HN5.out.cells
       clear hw5 hb5 hd4 hc4 hf4 n4a n4b n4c m4a m4b m4c))
   go_region_law (
      refine str_append_step (W := w5.drew) w1.heap.size (by rfl) (.tmp 39) (.tmp 41) 34 9 5 rfl Try.underlying34 Try.underlying9 info5 v5 (xs4 ++ leBytes v.size 2) v (by first | rfl | (simp [Act.eval]; done)) (by first | rfl | (simp [Act.eval]; done)) (Kd.R_drew HW5.out.row) HB5.out.size (by rw [HX4.out]; simp [leBytes, bytesOf_length]; omega) ?_
      intro v6 w6 ho hg
      have HO6 := Aside0.mk ho
      have HB6 := Aside0.mk ((below_drew HB5.out).grown hg HB5.out.size (own_base (Kd.own_of_R HW5.out.row)))
      clear ho hg)
   all_goals
    go_wp2
    go_ret2
    refine ⟨v6, rfl, ?_, HB1.out.trans (HB6.out.mono HB1.out.size)⟩
    have h6 := Kd.R_lower HO6.out HB1.out.size
    rw [HX4.out] at h6
    simpa [packed, List.append_assoc] using h6

theorem node_Pack.calls (a0_0 : ByteArray) (a0_1 : ByteArray) (a0_2 : Bool) (r1 : List Int) (r2 : Int) (w : World) (h : node_Pack.f a0_0 a0_1 a0_2 = some (r1, r2)) :
    Calls Try.prog 18 #[.agg #[.string a0_0, .string a0_1, .bool a0_2]] w fun e w' => ∃ v0_ : Value, e = .returned (.tuple #[v0_, .int .i64 r2]) ∧ Kd.R (Kd.int .u8) 5 w' w.heap.size (fun _ => True) v0_ r1 ∧ Below w.heap.size w w' := by
  unfold node_Pack.f at h
  obtain ⟨b, hb, h⟩ := Option.bind_eq_some_iff.mp h
  cases b with
  | false =>
    cases h
    exact pack_refused _ _ _ _ hb
  | true =>
    cases h
    cases a0_2 with
    | false => exact pack_false _ _ _ hb
    | true => exact pack_true _ _ _ hb
end Go.Proofs.Ytakchpeohmkpkaa.Q

namespace Go.Proofs.Ytakchpeohmkpkaa.Q
open Go.RowKit Go.Proofs.YtakchpeohmkpkaaW.PrintWords Go.Proofs.YtakchpeohmkpkaaW.PrintLast Go.Proofs.YtakchpeohmkpkaaW.PrintMore
set_option linter.unusedVariables false
set_option linter.unusedSimpArgs false

/-- A block of these cells, of no bytes. -/
def Blk (w : World) (b : Nat) (cs : Array Value) (t : Nat) : Prop := w.heap[b]? = some (.cells cs t (0, 0))
theorem Blk.lt {w : World} {b : Nat} {cs : Array Value} {t : Nat} (h : Blk w b cs t) : b < w.heap.size := (Array.getElem?_eq_some_iff.1 h).1
theorem Blk.fresh (w : World) (cs : Array Value) (t : Nat) : Blk (w.alloc (.cells cs t)) w.heap.size cs t := by
  show (w.heap.push _)[w.heap.size]? = _
  rw [Array.getElem?_push_size]
theorem Blk.below {w w1 : World} {B b : Nat} {cs : Array Value} {t : Nat} (h : Blk w b cs t) (hb : Below B w w1) (hB : b < B) : Blk w1 b cs t := (hb.block b hB).trans h
theorem Blk.alloc {w : World} {b : Nat} {cs : Array Value} {t : Nat} (h : Blk w b cs t) (o : Obj) : Blk (w.alloc o) b cs t := h.below (below_alloc (Below.refl _ _) o) h.lt
theorem Blk.drew {w : World} {b : Nat} {cs : Array Value} {t : Nat} (h : Blk w b cs t) : Blk w.drew b cs t := h
theorem Blk.cell {w : World} {b : Nat} {cs : Array Value} {t : Nat} (h : Blk w b cs t) (i : Nat) (v : Value) (hv : cs[i]? = some v) : w.cell? ⟨b, i, none⟩ = some v := by
  unfold Blk at h
  simp [World.cell?, h, hv]
theorem Blk.frozen {w : World} {b : Nat} {cs : Array Value} {t : Nat} (h : Blk w b cs t) (i : Nat) : w.frozen? ⟨b, i, none⟩ = false := by
  unfold Blk at h
  simp [World.frozen?, h]

/-- A node is stored into the result's block. -/
theorem stored {w w1 : World} {b : Nat} (h : Blk w1 b #[.string ⟨#[]⟩, .string ⟨#[]⟩, .bool false] 32) (hb : Below w.heap.size w w1) (hg : w.heap.size ≤ b) (k v : ByteArray) :
    (((w1.setCell ⟨b, 0, none⟩ (.string k)).setCell ⟨b, 1, none⟩ (.string v)).setCell ⟨b, 2, none⟩ (.bool false)).heap[b]? = some (.cells #[.string k, .string v, .bool false] 32 (0, 0)) ∧
    Below w.heap.size w (((w1.setCell ⟨b, 0, none⟩ (.string k)).setCell ⟨b, 1, none⟩ (.string v)).setCell ⟨b, 2, none⟩ (.bool false)) := by
  refine ⟨?_, ((hb.setCell (p := ⟨b, 0, none⟩) hg _).setCell (p := ⟨b, 1, none⟩) hg _).setCell (p := ⟨b, 2, none⟩) hg _⟩
  have h1 := heap_setCell_same w1 b 0 _ 32 (.string k) h
  have h2 := heap_setCell_same _ b 1 _ 32 (.string v) h1
  have h3 := heap_setCell_same _ b 2 _ 32 (.bool false) h2
  simpa using h3

/-- What an inode's node holds. -/
def inodeBytes (a1 a2 a3 a4 a5 a6 : Int) : List Int := leBytes a1 1 ++ leBytes a2 2 ++ leBytes a3 2 ++ leBytes a4 2 ++ leBytes a5 2 ++ leBytes a6 4
def node_Inode.f (a0 a1 a2 a3 a4 a5 a6 : Int) : Option (ByteArray × ByteArray × Bool × Int) :=
  if rightInode a0 a1 a2 a3 a4 a5 a6 = true then (node_InodeKey.f a0).bind fun k => some (k, strOfNums (inodeBytes a1 a2 a3 a4 a5 a6), false, 0) else some (⟨#[]⟩, ⟨#[]⟩, false, 22)

set_option maxHeartbeats 8000000 in
set_option maxRecDepth 100000 in
theorem inode_refused (a0 a1 a2 a3 a4 a5 a6 : Int) (w : World) (h : rightInode a0 a1 a2 a3 a4 a5 a6 = false) :
    Calls Try.prog 32 #[.agg #[.int .i64 a0, .int .i64 a1, .int .i64 a2, .int .i64 a3, .int .i64 a4, .int .i64 a5, .int .i64 a6]] w fun e w' => e = .returned (.tuple #[.agg #[.string ⟨#[]⟩, .string ⟨#[]⟩, .bool false], .int .i64 22]) ∧ Below w.heap.size w w' := by
  have hu52 := Try.underlying52
  have hu32 := Try.underlying32
  have HR := Aside0.mk (show node_right.f a0 a1 a2 a3 a4 a5 a6 = some false by unfold node_right.f; rw [h])
  obtain ⟨cs, hcs⟩ : ∃ cs : Array Value, cs = #[.int .i64 a0, .int .i64 a1, .int .i64 a2, .int .i64 a3, .int .i64 a4, .int .i64 a5, .int .i64 a6] := ⟨_, rfl⟩
  go_enter Try.func32, Try.ntmps32
  go_wp2_with (first
    | (go_at_call 59; (with_reducible refine (node_right.calls a0 a1 a2 a3 a4 a5 a6 false _ HR.out).mono ?_); rintro e w1 ⟨rfl, hb1⟩
       have hr1 : Blk w1 (w.heap.size + 1) #[.string ⟨#[]⟩, .string ⟨#[]⟩, .bool false] 32 := by
         refine Blk.below ?_ hb1 (by simp)
         simpa using Blk.fresh (w.alloc (.cells #[.int .i64 a0, .int .i64 a1, .int .i64 a2, .int .i64 a3, .int .i64 a4, .int .i64 a5, .int .i64 a6] 52)) #[.string ⟨#[]⟩, .string ⟨#[]⟩, .bool false] 32
       have c0 := hr1.cell 0 _ rfl; have c1 := hr1.cell 1 _ rfl; have c2 := hr1.cell 2 _ rfl
       have f0 := hr1.frozen 0; have f1 := hr1.frozen 1; have f2 := hr1.frozen 2
       have HR1 := Aside0.mk hr1
       have HB1 := Aside0.mk ((below_alloc (below_alloc (Below.refl w.heap.size w) (.cells #[.int .i64 a0, .int .i64 a1, .int .i64 a2, .int .i64 a3, .int .i64 a4, .int .i64 a5, .int .i64 a6] 52)) (.cells #[.string ⟨#[]⟩, .string ⟨#[]⟩, .bool false] 32)).trans (hb1.mono (by simp; omega)))
       clear hr1 hb1))
  obtain ⟨hs, hb⟩ := stored HR1.out HB1.out (Nat.le_succ _) ⟨#[]⟩ ⟨#[]⟩
  refine bodyPost_ret (results_ct rfl _ _ (w.heap.size + 1) 32 #[.string ⟨#[]⟩, .string ⟨#[]⟩, .bool false] (0, 0) _ rfl hs Try.underlying32 rfl (by kernel_rfl)) rfl ?_
  exact ⟨rfl, hb⟩

theorem rightInode_bounds {a0 a1 a2 a3 a4 a5 a6 : Int} (h : rightInode a0 a1 a2 a3 a4 a5 a6 = true) : (1 ≤ a0 ∧ a0 ≤ 4096) ∧ (1 ≤ a1 ∧ a1 ≤ 3) ∧ (0 ≤ a2 ∧ a2 ≤ 511) ∧ (0 ≤ a3 ∧ a3 ≤ 65535) ∧ (0 ≤ a4 ∧ a4 ≤ 65535) ∧ (0 ≤ a5 ∧ a5 ≤ 100) ∧ (0 ≤ a6 ∧ a6 ≤ 16384) := by
  simp [rightInode] at h
  omega
theorem put_f (n : Int) (h0 : 0 ≤ n) (h1 : n ≤ 100000) : bits_Put.f (IntKind.u64.wrap n) 1 = some (leBytes n 1) ∧ bits_Put.f (IntKind.u64.wrap n) 2 = some (leBytes n 2) ∧ bits_Put.f (IntKind.u64.wrap n) 4 = some (leBytes n 4) := by
  rw [u64_wrap (by omega) (by omega)]
  exact ⟨rfl, rfl, rfl⟩
theorem Stays.blk {w w1 : World} {g b t : Nat} {cs : Array Value} (h : Stays w w1 g) (hb : Blk w b cs t) (ht : t ≠ 5) (hg : b ≠ g) : Blk w1 b cs t := h b cs t ht hg hb
theorem Writer.text {w : World} {base g : Nat} {v : Value} {xs : List Int} (h : Writer w base g v xs) : (convert 34 9 v).run Try.prog w = .ok (.string (strOfNums xs)) w :=
  own_string Try.underlying34 Try.underlying5 Try.underlying9 (Kd.own_of_R h.row)

/-- What holds at the head of the loop over the four numbers. -/
structure InodeHead (w wx : World) (g l i : Nat) (a0 a1 a2 a3 a4 a5 a6 : Int) (v : Value) : Prop where
  wr : Writer wx g g v (leBytes a1 1 ++ ([a2, a3, a4, a5].take i).flatMap fun x => leBytes x 2)
  par : Blk wx w.heap.size #[.int .i64 a0, .int .i64 a1, .int .i64 a2, .int .i64 a3, .int .i64 a4, .int .i64 a5, .int .i64 a6] 52
  res : Blk wx (w.heap.size + 1) #[.string ⟨#[]⟩, .string ⟨#[]⟩, .bool false] 32
  lit : Blk wx l #[.int .i64 a2, .int .i64 a3, .int .i64 a4, .int .i64 a5] 3
  below : Below w.heap.size w wx
theorem InodeHead.next {w wx w1 : World} {g l i : Nat} {a0 a1 a2 a3 a4 a5 a6 x : Int} {v v1 : Value} (h : InodeHead w wx g l i a0 a1 a2 a3 a4 a5 a6 v) (hg : w.heap.size + 1 < g) (hl : l ≠ g) (hx : [a2, a3, a4, a5][i]? = some x)
    (hw : Writer w1 g g v1 (leBytes a1 1 ++ (([a2, a3, a4, a5].take i).flatMap fun x => leBytes x 2) ++ leBytes x 2)) (hb : Below g wx w1) (hs : Stays wx w1 g) : InodeHead w w1 g l (i + 1) a0 a1 a2 a3 a4 a5 a6 v1 := by
  refine ⟨?_, hs.blk h.par (by decide) (by omega), hs.blk h.res (by decide) (by omega), hs.blk h.lit (by decide) hl, h.below.trans (hb.mono (by omega))⟩
  rw [List.take_add_one, hx]
  simpa [List.flatMap_append, List.append_assoc] using hw

set_option maxHeartbeats 8000000 in
set_option maxRecDepth 100000 in
theorem inode_made (a0 a1 a2 a3 a4 a5 a6 : Int) (k : ByteArray) (w : World) (h : rightInode a0 a1 a2 a3 a4 a5 a6 = true) (hk : node_InodeKey.f a0 = some k) :
    Calls Try.prog 32 #[.agg #[.int .i64 a0, .int .i64 a1, .int .i64 a2, .int .i64 a3, .int .i64 a4, .int .i64 a5, .int .i64 a6]] w fun e w' => e = .returned (.tuple #[.agg #[.string k, .string (strOfNums (inodeBytes a1 a2 a3 a4 a5 a6)), .bool false], .int .i64 0]) ∧ Below w.heap.size w w' := by
  have hu52 := Try.underlying52
  have hu32 := Try.underlying32
  have HR := Aside0.mk (show node_right.f a0 a1 a2 a3 a4 a5 a6 = some true by unfold node_right.f; rw [h])
  obtain ⟨b0, b1, b2, b3, b4, b5, b6⟩ := rightInode_bounds h
  have HK := Aside0.mk hk
  have HP1 := Aside0.mk (put_f a1 (by omega) (by omega)).1
  have HP6 := Aside0.mk (put_f a6 (by omega) (by omega)).2.2
  have HPx := Aside0.mk (fun (x : Int) (hx : 0 ≤ x ∧ x ≤ 65535) => (put_f x hx.1 (by omega)).2.1)
  have HQ2 := Aside0.mk (HPx.out a2 (by omega)); have HQ3 := Aside0.mk (HPx.out a3 (by omega)); have HQ4 := Aside0.mk (HPx.out a4 (by omega)); have HQ5 := Aside0.mk (HPx.out a5 (by omega))
  have HM1 := Aside0.mk (fun x : Int => show (leBytes x 1).length ≤ 8 by simp [leBytes])
  have HM2 := Aside0.mk (fun x : Int => show (leBytes x 2).length ≤ 8 by simp [leBytes])
  have HM4 := Aside0.mk (fun x : Int => show (leBytes x 4).length ≤ 8 by simp [leBytes])
  have HL0 := Aside0.mk (show ([] : List Int).length ≤ 1000000 by simp)
  clear h hk HPx b0 b1 b2 b3 b4 b5 b6
  go_enter Try.func32, Try.ntmps32
  go_wp2_with (first
    | (go_at_call 59; (with_reducible refine (node_right.calls a0 a1 a2 a3 a4 a5 a6 true _ HR.out).mono ?_); rintro e w1 ⟨rfl, hb1⟩
       have hr1 : Blk w1 (w.heap.size + 1) #[.string ⟨#[]⟩, .string ⟨#[]⟩, .bool false] 32 := by
         refine Blk.below ?_ hb1 (by simp)
         simpa using Blk.fresh (w.alloc (.cells #[.int .i64 a0, .int .i64 a1, .int .i64 a2, .int .i64 a3, .int .i64 a4, .int .i64 a5, .int .i64 a6] 52)) #[.string ⟨#[]⟩, .string ⟨#[]⟩, .bool false] 32
       have hp1 : Blk w1 w.heap.size #[.int .i64 a0, .int .i64 a1, .int .i64 a2, .int .i64 a3, .int .i64 a4, .int .i64 a5, .int .i64 a6] 52 := ((Blk.fresh w #[.int .i64 a0, .int .i64 a1, .int .i64 a2, .int .i64 a3, .int .i64 a4, .int .i64 a5, .int .i64 a6] 52).alloc _).below hb1 (by simp; omega)
       have HB1 := Aside0.mk ((below_alloc (below_alloc (Below.refl w.heap.size w) (.cells #[.int .i64 a0, .int .i64 a1, .int .i64 a2, .int .i64 a3, .int .i64 a4, .int .i64 a5, .int .i64 a6] 52)) (.cells #[.string ⟨#[]⟩, .string ⟨#[]⟩, .bool false] 32)).trans (hb1.mono (by simp; omega)))
       have HW1 := Aside0.mk (Writer.fresh w1); have hc1 := HW1.out.cell
       have HR1 := Aside0.mk (hr1.alloc (.cells #[.slice none 0 0] 69))
       have HP1' := Aside0.mk (hp1.alloc (.cells #[.slice none 0 0] 69))
       have d1 := HP1'.out.cell 1 _ rfl
       have HG1 := Aside0.mk (show w.heap.size + 1 < w1.heap.size by have := hr1.lt; omega)
       clear hr1 hp1 hb1)
    | (go_at_call 46; (with_reducible refine (put_calls w1.heap.size w1.heap.size _ [] (leBytes a1 1) a1 1 _ HW1.out HL0.out (HM1.out _) HP1.out).mono ?_); rintro e w2 ⟨rfl, v2, hw2, hb2, hs2⟩
       have HW2 := Aside0.mk hw2; have HB2 := Aside0.mk (HB1.out.trans (((below_alloc (Below.refl w1.heap.size w1) (.cells #[.slice none 0 0] 69)).trans hb2).mono (by have := HG1.out; omega)))
       have HR2 := Aside0.mk (hs2.blk HR1.out (by decide) (by have := HG1.out; omega))
       have HP2 := Aside0.mk (hs2.blk HP1'.out (by decide) (by have := HG1.out; omega))
       have e2 := HP2.out.cell 2 _ rfl; have e3 := HP2.out.cell 3 _ rfl; have e4 := HP2.out.cell 4 _ rfl; have e5 := HP2.out.cell 5 _ rfl
       clear hw2 hb2 hs2 hc1 d1))
  go_loopg [27] 4 (fun gk s27 wx => ∃ (i : Nat) (v : Value), i + gk = 4 ∧ s27 = .int .i64 i ∧ InodeHead w wx w1.heap.size w2.heap.size i a0 a1 a2 a3 a4 a5 a6 v)
  case atStart =>
    refine ⟨0, v2, rfl, rfl, ?_, HP2.out.alloc _, HR2.out.alloc _, Blk.fresh _ _ _, below_alloc HB2.out _⟩
    simpa using HW2.out.below (below_alloc (Below.refl _ _) _)
  case round =>
    obtain ⟨i, v, hig, rfl, hh⟩ := hrel
    cases gk with
    | zero =>
      obtain rfl : i = 4 := by omega
      have HH := Aside0.mk hh
      have p0 := hh.par.cell 0 _ rfl; have p6 := hh.par.cell 6 _ rfl
      have HLx := Aside0.mk (show (leBytes a1 1 ++ ([a2, a3, a4, a5].take 4).flatMap fun x => leBytes x 2).length ≤ 1000000 by simp [leBytes])
      clear hh
      go_wp2_with (first
        | (go_at_call 46; (with_reducible refine (put_calls w1.heap.size w1.heap.size v _ (leBytes a6 4) a6 4 _ HH.out.wr HLx.out (HM4.out _) HP6.out).mono ?_); rintro e w3 ⟨rfl, v3, hw3, hb3, hs3⟩
           have HW3 := Aside0.mk hw3; have HB3 := Aside0.mk (HH.out.below.trans (hb3.mono (by have := HG1.out; omega)))
           have HR3 := Aside0.mk (hs3.blk HH.out.res (by decide) (by have := HG1.out; omega))
           have HP3 := Aside0.mk (hs3.blk HH.out.par (by decide) (by have := HG1.out; omega))
           have q0 := HP3.out.cell 0 _ rfl
           have hc3 := hw3.cell
           have hcv := Writer.text (Writer.below hw3 (below_drew (Below.refl _ _)))
           clear hw3 hb3 hs3 p0 p6))
      go_region_law (
         refine goes_ Try.func16 (by kernel_rfl) rfl #[.int .i64 a0] (by rfl) rfl rfl (by first | rfl | (simp [Act.eval, Act.put]; done) | (simp [Act.eval]; done)) ?_
         refine (node_InodeKey.calls a0 k _ HK.out).mono ?_
         rintro e w4 ⟨rfl, hb4⟩
         refine ⟨_, rfl, ?_⟩
         have hb34 : Below w3.heap.size w3 w4 := (below_drew (Below.refl w3.heap.size w3)).trans hb4
         have hw4 := HW3.out.below hb34
         have hc4 := hw4.cell
         have hcv4 := hw4.text
         have hr4 := HR3.out.below hb34 HR3.out.lt
         have c0 := hr4.cell 0 _ rfl; have c1 := hr4.cell 1 _ rfl; have c2 := hr4.cell 2 _ rfl
         have f0 := hr4.frozen 0; have f1 := hr4.frozen 1; have f2 := hr4.frozen 2
         have HR4 := Aside0.mk hr4
         have HB4 := Aside0.mk (HB3.out.trans (hb34.mono HB3.out.size))
         clear hw4 hr4 hb4 hb34)
      all_goals
        go_wp2
        obtain ⟨hs, hb⟩ := stored HR4.out HB4.out (Nat.le_succ _) k (strOfNums ((leBytes a1 1 ++ ([a2, a3, a4, a5].take 4).flatMap fun x => leBytes x 2) ++ leBytes a6 4))
        refine bodyPost_ret (results_ct rfl _ _ (w.heap.size + 1) 32 #[.string k, .string (strOfNums ((leBytes a1 1 ++ ([a2, a3, a4, a5].take 4).flatMap fun x => leBytes x 2) ++ leBytes a6 4)), .bool false] (0, 0) _ rfl hs Try.underlying32 rfl (by kernel_rfl)) rfl ?_
        refine ⟨?_, hb⟩
        have he : strOfNums (inodeBytes a1 a2 a3 a4 a5 a6) = strOfNums ((leBytes a1 1 ++ ([a2, a3, a4, a5].take 4).flatMap fun x => leBytes x 2) ++ leBytes a6 4) := by simp [inodeBytes, List.append_assoc]
        rw [he]
        rfl
    | succ gk =>
      have hi : i = 0 ∨ i = 1 ∨ i = 2 ∨ i = 3 := by omega
      rcases hi with rfl | rfl | rfl | rfl
      · have l0 := hh.lit.cell 0 _ rfl
        have HH := Aside0.mk hh
        have HLx := Aside0.mk (show (leBytes a1 1 ++ ([a2, a3, a4, a5].take 0).flatMap fun x => leBytes x 2).length ≤ 1000000 by simp [leBytes])
        clear hh
        go_wp2_with (first
          | (go_at_call 46; (with_reducible refine (put_calls w1.heap.size w1.heap.size v _ (leBytes a2 2) a2 2 _ HH.out.wr HLx.out (HM2.out _) HQ2.out).mono ?_); rintro e w3 ⟨rfl, v3, hw3, hb3, hs3⟩))
        go_roundg 3
        case measure => omega
        case rel => exact ⟨1, v3, by omega, rfl, HH.out.next HG1.out (by have := HW2.out.lt; omega) rfl hw3 hb3 hs3⟩
      · have l1 := hh.lit.cell 1 _ rfl
        have HH := Aside0.mk hh
        have HLx := Aside0.mk (show (leBytes a1 1 ++ ([a2, a3, a4, a5].take 1).flatMap fun x => leBytes x 2).length ≤ 1000000 by simp [leBytes])
        clear hh
        go_wp2_with (first
          | (go_at_call 46; (with_reducible refine (put_calls w1.heap.size w1.heap.size v _ (leBytes a3 2) a3 2 _ HH.out.wr HLx.out (HM2.out _) HQ3.out).mono ?_); rintro e w3 ⟨rfl, v3, hw3, hb3, hs3⟩))
        go_roundg 2
        case measure => omega
        case rel => exact ⟨2, v3, by omega, rfl, HH.out.next HG1.out (by have := HW2.out.lt; omega) rfl hw3 hb3 hs3⟩
      · have l2 := hh.lit.cell 2 _ rfl
        have HH := Aside0.mk hh
        have HLx := Aside0.mk (show (leBytes a1 1 ++ ([a2, a3, a4, a5].take 2).flatMap fun x => leBytes x 2).length ≤ 1000000 by simp [leBytes])
        clear hh
        go_wp2_with (first
          | (go_at_call 46; (with_reducible refine (put_calls w1.heap.size w1.heap.size v _ (leBytes a4 2) a4 2 _ HH.out.wr HLx.out (HM2.out _) HQ4.out).mono ?_); rintro e w3 ⟨rfl, v3, hw3, hb3, hs3⟩))
        go_roundg 1
        case measure => omega
        case rel => exact ⟨3, v3, by omega, rfl, HH.out.next HG1.out (by have := HW2.out.lt; omega) rfl hw3 hb3 hs3⟩
      · have l3 := hh.lit.cell 3 _ rfl
        have HH := Aside0.mk hh
        have HLx := Aside0.mk (show (leBytes a1 1 ++ ([a2, a3, a4, a5].take 3).flatMap fun x => leBytes x 2).length ≤ 1000000 by simp [leBytes])
        clear hh
        go_wp2_with (first
          | (go_at_call 46; (with_reducible refine (put_calls w1.heap.size w1.heap.size v _ (leBytes a5 2) a5 2 _ HH.out.wr HLx.out (HM2.out _) HQ5.out).mono ?_); rintro e w3 ⟨rfl, v3, hw3, hb3, hs3⟩))
        go_roundg 0
        case measure => omega
        case rel => exact ⟨4, v3, by omega, rfl, HH.out.next HG1.out (by have := HW2.out.lt; omega) rfl hw3 hb3 hs3⟩

theorem node_Inode.calls (a0_0 : Int) (a0_1 : Int) (a0_2 : Int) (a0_3 : Int) (a0_4 : Int) (a0_5 : Int) (a0_6 : Int) (r1 : ByteArray) (r2 : ByteArray) (r3 : Bool) (r4 : Int) (w : World) (h : node_Inode.f a0_0 a0_1 a0_2 a0_3 a0_4 a0_5 a0_6 = some (r1, r2, r3, r4)) :
    Calls Try.prog 32 #[.agg #[.int .i64 a0_0, .int .i64 a0_1, .int .i64 a0_2, .int .i64 a0_3, .int .i64 a0_4, .int .i64 a0_5, .int .i64 a0_6]] w fun e w' => e = .returned (.tuple #[.agg #[.string r1, .string r2, .bool r3], .int .i64 r4]) ∧ Below w.heap.size w w' := by
  unfold node_Inode.f at h
  split at h
  · rename_i hr
    obtain ⟨k, hk, h⟩ := Option.bind_eq_some_iff.mp h
    cases h
    exact inode_made _ _ _ _ _ _ _ _ w hr hk
  · rename_i hr
    cases h
    exact inode_refused _ _ _ _ _ _ _ w (Bool.eq_false_iff.mpr hr)
end Go.Proofs.Ytakchpeohmkpkaa.Q

namespace Go.Proofs.Ytakchpeohmkpkaa.Q
open Go.RowKit Go.Proofs.YtakchpeohmkpkaaW.PrintWords Go.Proofs.YtakchpeohmkpkaaW.PrintLast Go.Proofs.YtakchpeohmkpkaaW.PrintMore
attribute [local go_sem] max2_int min2_int max_two min_two max_three min_three max_four min_four   -- for this text's walks alone
set_option linter.unusedVariables false
set_option linter.unusedSimpArgs false

/-! ### pumicelaw06_alive: function 10 -/
def pumicelaw06_alive.f  : Option (Bool) := (node_Inode.f 1 2 493 0 0 2 0).bind fun bt135 => ((node_Pack.f bt135.1 bt135.2.1 bt135.2.2.1).bind fun bt140 => ((node_Mark.f 5 2).bind fun bt144 => ((node_Inode.f 1 2 512 0 0 0 0).bind fun bt148 => ((node_EntryKey.f 258 (⟨#[97]⟩ : ByteArray)).bind fun t153 => (if t153.toList = ([1, 2, 2, 97] : List UInt8) then ((node_OrphanKey.f 7).bind fun t154 => (if t154.toList = ([0, 0, 4, 0, 7] : List UInt8) then (if bt135.2.2.2 = 0 then (if (bt135.2.1.size : Int) = 13 then (if bt140.2 = 0 then (if (bt140.1.length : Int) = 20 then (if (bt144.1.length : Int) = 10 then (if bt144.2 = 0 then (some (bt148.2.2.2 == 22)) else (none)) else (none)) else (none)) else (none)) else (none)) else (none)) else (none))) else (none))))))
set_option maxHeartbeats 8000000 in
set_option maxRecDepth 100000 in
theorem pumicelaw06_alive.calls  (r : Bool) (w : World) (h : pumicelaw06_alive.f  = some r) :
    Calls Try.prog 10 #[] w fun e w' => e = .returned (.bool r) ∧ Below w.heap.size w w' := by
  have hu52 := Try.underlying52
  have hu32 := Try.underlying32
  have HB := Aside0.mk (Below.refl w.heap.size w)
  have H : ((node_Inode.f 1 2 493 0 0 2 0).bind fun bt135 => ((node_Pack.f bt135.1 bt135.2.1 bt135.2.2.1).bind fun bt140 => ((node_Mark.f 5 2).bind fun bt144 => ((node_Inode.f 1 2 512 0 0 0 0).bind fun bt148 => ((node_EntryKey.f 258 (⟨#[97]⟩ : ByteArray)).bind fun t153 => (if t153.toList = ([1, 2, 2, 97] : List UInt8) then ((node_OrphanKey.f 7).bind fun t154 => (if t154.toList = ([0, 0, 4, 0, 7] : List UInt8) then (if bt135.2.2.2 = 0 then (if (bt135.2.1.size : Int) = 13 then (if bt140.2 = 0 then (if (bt140.1.length : Int) = 20 then (if (bt144.1.length : Int) = 10 then (if bt144.2 = 0 then (some (bt148.2.2.2 == 22)) else (none)) else (none)) else (none)) else (none)) else (none)) else (none)) else (none))) else (none))))))) = some r := h
  clear h
  replace H := Option.bind_eq_some_iff.mp H
  obtain ⟨⟨t135, t136, t137, t138⟩, A10, H⟩ := H
  replace H : ((node_Pack.f t135 t136 t137).bind fun bt140 => ((node_Mark.f 5 2).bind fun bt144 => ((node_Inode.f 1 2 512 0 0 0 0).bind fun bt148 => ((node_EntryKey.f 258 (⟨#[97]⟩ : ByteArray)).bind fun t153 => (if t153.toList = ([1, 2, 2, 97] : List UInt8) then ((node_OrphanKey.f 7).bind fun t154 => (if t154.toList = ([0, 0, 4, 0, 7] : List UInt8) then (if t138 = 0 then (if (t136.size : Int) = 13 then (if bt140.2 = 0 then (if (bt140.1.length : Int) = 20 then (if (bt144.1.length : Int) = 10 then (if bt144.2 = 0 then (some (bt148.2.2.2 == 22)) else (none)) else (none)) else (none)) else (none)) else (none)) else (none)) else (none))) else (none)))))) = some r := H
  have A1 := Aside0.mk A10
  clear A10
  replace H := Option.bind_eq_some_iff.mp H
  obtain ⟨⟨t140, t143⟩, A20, H⟩ := H
  replace H : ((node_Mark.f 5 2).bind fun bt144 => ((node_Inode.f 1 2 512 0 0 0 0).bind fun bt148 => ((node_EntryKey.f 258 (⟨#[97]⟩ : ByteArray)).bind fun t153 => (if t153.toList = ([1, 2, 2, 97] : List UInt8) then ((node_OrphanKey.f 7).bind fun t154 => (if t154.toList = ([0, 0, 4, 0, 7] : List UInt8) then (if t138 = 0 then (if (t136.size : Int) = 13 then (if t143 = 0 then (if (t140.length : Int) = 20 then (if (bt144.1.length : Int) = 10 then (if bt144.2 = 0 then (some (bt148.2.2.2 == 22)) else (none)) else (none)) else (none)) else (none)) else (none)) else (none)) else (none))) else (none))))) = some r := H
  have A2 := Aside0.mk A20
  clear A20
  replace H := Option.bind_eq_some_iff.mp H
  obtain ⟨⟨t144, t145⟩, A30, H⟩ := H
  replace H : ((node_Inode.f 1 2 512 0 0 0 0).bind fun bt148 => ((node_EntryKey.f 258 (⟨#[97]⟩ : ByteArray)).bind fun t153 => (if t153.toList = ([1, 2, 2, 97] : List UInt8) then ((node_OrphanKey.f 7).bind fun t154 => (if t154.toList = ([0, 0, 4, 0, 7] : List UInt8) then (if t138 = 0 then (if (t136.size : Int) = 13 then (if t143 = 0 then (if (t140.length : Int) = 20 then (if (t144.length : Int) = 10 then (if t145 = 0 then (some (bt148.2.2.2 == 22)) else (none)) else (none)) else (none)) else (none)) else (none)) else (none)) else (none))) else (none)))) = some r := H
  have A3 := Aside0.mk A30
  clear A30
  replace H := Option.bind_eq_some_iff.mp H
  obtain ⟨⟨t148, t149, t150, t151⟩, A40, H⟩ := H
  replace H : ((node_EntryKey.f 258 (⟨#[97]⟩ : ByteArray)).bind fun t153 => (if t153.toList = ([1, 2, 2, 97] : List UInt8) then ((node_OrphanKey.f 7).bind fun t154 => (if t154.toList = ([0, 0, 4, 0, 7] : List UInt8) then (if t138 = 0 then (if (t136.size : Int) = 13 then (if t143 = 0 then (if (t140.length : Int) = 20 then (if (t144.length : Int) = 10 then (if t145 = 0 then (some (t151 == 22)) else (none)) else (none)) else (none)) else (none)) else (none)) else (none)) else (none))) else (none))) = some r := H
  have A4 := Aside0.mk A40
  clear A40
  replace H := Option.bind_eq_some_iff.mp H
  obtain ⟨t153, A50, H⟩ := H
  replace H : (if t153.toList = ([1, 2, 2, 97] : List UInt8) then ((node_OrphanKey.f 7).bind fun t154 => (if t154.toList = ([0, 0, 4, 0, 7] : List UInt8) then (if t138 = 0 then (if (t136.size : Int) = 13 then (if t143 = 0 then (if (t140.length : Int) = 20 then (if (t144.length : Int) = 10 then (if t145 = 0 then (some (t151 == 22)) else (none)) else (none)) else (none)) else (none)) else (none)) else (none)) else (none))) else (none)) = some r := H
  have A5 := Aside0.mk A50
  clear A50
  by_cases c6 : t153.toList = ([1, 2, 2, 97] : List UInt8)
  · rw [if_pos c6] at H
    have c6b0 : (t153.toList == ([1, 2, 2, 97] : List UInt8)) = true := beq_iff_eq.mpr c6
    have c6b1 : (t153.toList != ([1, 2, 2, 97] : List UInt8)) = false := bne_eq_false_iff_eq.mpr c6
    clear c6
    replace H := Option.bind_eq_some_iff.mp H
    obtain ⟨t154, A70, H⟩ := H
    replace H : (if t154.toList = ([0, 0, 4, 0, 7] : List UInt8) then (if t138 = 0 then (if (t136.size : Int) = 13 then (if t143 = 0 then (if (t140.length : Int) = 20 then (if (t144.length : Int) = 10 then (if t145 = 0 then (some (t151 == 22)) else (none)) else (none)) else (none)) else (none)) else (none)) else (none)) else (none)) = some r := H
    have A7 := Aside0.mk A70
    clear A70
    by_cases c8 : t154.toList = ([0, 0, 4, 0, 7] : List UInt8)
    · rw [if_pos c8] at H
      have c8b0 : (t154.toList == ([0, 0, 4, 0, 7] : List UInt8)) = true := beq_iff_eq.mpr c8
      have c8b1 : (t154.toList != ([0, 0, 4, 0, 7] : List UInt8)) = false := bne_eq_false_iff_eq.mpr c8
      clear c8
      by_cases c9 : t138 = 0
      · rw [if_pos c9] at H
        have c9b0 : (t138 == 0) = true := beq_iff_eq.mpr c9
        have c9b1 : (t138 != 0) = false := bne_eq_false_iff_eq.mpr c9
        clear c9
        by_cases c10 : (t136.size : Int) = 13
        · rw [if_pos c10] at H
          have c10b0 : ((t136.size : Int) == 13) = true := beq_iff_eq.mpr c10
          have c10b1 : ((t136.size : Int) != 13) = false := bne_eq_false_iff_eq.mpr c10
          clear c10
          by_cases c11 : t143 = 0
          · rw [if_pos c11] at H
            have c11b0 : (t143 == 0) = true := beq_iff_eq.mpr c11
            have c11b1 : (t143 != 0) = false := bne_eq_false_iff_eq.mpr c11
            clear c11
            by_cases c12 : (t140.length : Int) = 20
            · rw [if_pos c12] at H
              have c12b0 : ((t140.length : Int) == 20) = true := beq_iff_eq.mpr c12
              have c12b1 : ((t140.length : Int) != 20) = false := bne_eq_false_iff_eq.mpr c12
              clear c12
              by_cases c13 : (t144.length : Int) = 10
              · rw [if_pos c13] at H
                have c13b0 : ((t144.length : Int) == 10) = true := beq_iff_eq.mpr c13
                have c13b1 : ((t144.length : Int) != 10) = false := bne_eq_false_iff_eq.mpr c13
                clear c13
                by_cases c14 : t145 = 0
                · rw [if_pos c14] at H
                  have c14b0 : (t145 == 0) = true := beq_iff_eq.mpr c14
                  have c14b1 : (t145 != 0) = false := bne_eq_false_iff_eq.mpr c14
                  clear c14
                  obtain rfl := Option.some.inj H
                  go_enter Try.func10, Try.ntmps10
                  go_wp2_with (first | ((with_reducible refine gate_callee (f := 32) rfl ?_); refine goesL_ (some 11) rfl rfl Try.func32 (by kernel_rfl) rfl #[.agg #[.int .i64 1, .int .i64 2, .int .i64 493, .int .i64 0, .int .i64 0, .int .i64 2, .int .i64 0]] rfl (by (try simp only [List.map_toArray, List.map_cons, List.map_nil]); first | done | rfl | (simp only [List.length_drop, List.length_take]; rfl)) ?_; (with_reducible refine (node_Inode.calls 1 2 493 0 0 2 0 t135 t136 t137 t138 _ A1.out).mono ?_); rintro e w15 ⟨rfl, hb⟩; refine ⟨_, rfl, ?_⟩; have n0_ := Aside0.mk (below_step (by repeat (first | (with_reducible first | exact HB.out | apply below_alloc | apply pw_below_drewN | apply below_drew1) | exact HB.out)) hb); clear HB; have HB := n0_; clear n0_; (try clear hb); (try clear hb2); (try clear hk); (try clear hi)) | ((with_reducible refine gate_dst (N := 1) rfl ?_); (try (refine gate_guard (by rfl) ?_; dsimp only)); refine box_event ?hg (N := 1) ?hd (cs := #[.string (⟨#[]⟩ : ByteArray), .string (⟨#[]⟩ : ByteArray), .bool false]) (t := 32) ?hr ?_; (case hd => rfl); (case hg => rfl); (case hr => first | (go_simp; done) | (go_simp; rfl)); intro gb139 hg w16 hbox hb; have n0_ := Aside0.mk (below_step (by repeat (first | (with_reducible first | exact HB.out | apply below_alloc | apply pw_below_drewN | apply below_drew1) | exact HB.out)) hb); have n1_ := Aside0.mk (hbox); have n2_ := Aside0.mk ((by rw [hg]; exact (below_size (by repeat (first | (with_reducible first | exact HB.out | apply below_alloc | apply pw_below_drewN | apply below_drew1) | exact HB.out))) : w.heap.size ≤ gb139)); have n3_ := Aside0.mk ((by rw [hg]; exact (below_size (by repeat (first | (with_reducible first | exact HB.out | apply below_alloc | apply pw_below_drewN | apply below_drew1) | exact HB.out))) : w.heap.size ≤ gb139)); clear HB; have HB := n0_; have BK139 := n1_; have GW139 := n2_; have GE139 := n3_; clear n0_ n1_ n2_ n3_; clear hb hbox hg; have hcz17_0 : w16.cell? ⟨gb139, 0, none⟩ = some (.string (⟨#[]⟩ : ByteArray)) := (blk_cell BK139.out 0).trans rfl; have hcz17_1 : w16.cell? ⟨gb139, 1, none⟩ = some (.string (⟨#[]⟩ : ByteArray)) := (blk_cell BK139.out 1).trans rfl; have hcz17_2 : w16.cell? ⟨gb139, 2, none⟩ = some (.bool false) := (blk_cell BK139.out 2).trans rfl; have hfz17_0 := blk_frozen BK139.out 0; have hfz17_1 := blk_frozen BK139.out 1; have hfz17_2 := blk_frozen BK139.out 2) | ((with_reducible refine gate_callee (f := 18) rfl ?_); refine goesL_ (some 16) rfl rfl Try.func18 (by kernel_rfl) rfl #[.agg #[.string t135, .string t136, .bool t137]] rfl (by (try simp only [List.map_toArray, List.map_cons, List.map_nil]); first | done | rfl | (simp only [List.length_drop, List.length_take]; rfl)) ?_; (with_reducible refine (node_Pack.calls t135 t136 t137 t140 t143 _ A2.out).mono ?_); rintro e w18 ⟨v141, rfl, ho0, hb⟩; refine ⟨_, rfl, ?_⟩; have n0_ := Aside0.mk (Kd.R_lower ho0 (below_size (by repeat (first | (with_reducible first | exact HB.out | apply below_alloc | apply pw_below_drewN | apply below_drew1 | refine below_set ?_ GE139.out) | exact HB.out)))); have n1_ := Aside0.mk (blk_below (g := gb139) (o := .cells #[.string t135, .string t136, .bool t137] 32 (0, 0)) (by (with_reducible repeat (first | refine blk_drewN ?_ _ | refine blk_drew ?_ | refine blk_alloc ?_ _)); refine blk_put (cs := #[.string t135, .string t136, .bool false]) ?_ 2 _ rfl; (with_reducible repeat (first | refine blk_drewN ?_ _ | refine blk_drew ?_ | refine blk_alloc ?_ _)); refine blk_put (cs := #[.string t135, .string (⟨#[]⟩ : ByteArray), .bool false]) ?_ 1 _ rfl; (with_reducible repeat (first | refine blk_drewN ?_ _ | refine blk_drew ?_ | refine blk_alloc ?_ _)); refine blk_put (cs := #[.string (⟨#[]⟩ : ByteArray), .string (⟨#[]⟩ : ByteArray), .bool false]) ?_ 0 _ rfl; (with_reducible repeat (first | refine blk_drewN ?_ _ | refine blk_drew ?_ | refine blk_alloc ?_ _)); exact BK139.out) hb); have n2_ := Aside0.mk (below_step (by repeat (first | (with_reducible first | exact HB.out | apply below_alloc | apply pw_below_drewN | apply below_drew1 | refine below_set ?_ GE139.out) | exact HB.out)) hb); clear BK139; clear HB; have HO142 := n0_; have BK139 := n1_; have HB := n2_; clear n0_ n1_ n2_; (try clear hb); (try clear hb2); (try clear hk); (try clear hi); (try clear ho0)) | ((with_reducible refine gate_callee (f := 20) rfl ?_); refine goesL_ (some 20) rfl rfl Try.func20 (by kernel_rfl) rfl #[.int .u64 5, .int .i64 2] rfl (by (try simp only [List.map_toArray, List.map_cons, List.map_nil]); first | done | rfl | (simp only [List.length_drop, List.length_take]; rfl)) ?_; (with_reducible refine (node_Mark.calls 5 2 t144 t145 _ A3.out).mono ?_); rintro e w19 ⟨v146, rfl, ho0, hb⟩; refine ⟨_, rfl, ?_⟩; have n0_ := Aside0.mk (Kd.R_elder' (by (with_reducible repeat (first | apply Kd.R_alloc | apply Kd.R_drewN | apply Kd.R_drew)); exact HO142.out) (Kd.R_base ho0) hb); have n1_ := Aside0.mk (Kd.R_lower (Kd.R_new' ho0 (Kd.R_lt (by (with_reducible repeat (first | apply Kd.R_alloc | apply Kd.R_drewN | apply Kd.R_drew)); exact HO142.out))) (below_size (by repeat (first | (with_reducible first | exact HB.out | apply below_alloc | apply pw_below_drewN | apply below_drew1 | refine below_set ?_ GE139.out) | exact HB.out)))); have n2_ := Aside0.mk (blk_below (g := gb139) (o := .cells #[.string t135, .string t136, .bool t137] 32 (0, 0)) (by (with_reducible repeat (first | refine blk_drewN ?_ _ | refine blk_drew ?_ | refine blk_alloc ?_ _)); exact BK139.out) hb); have n3_ := Aside0.mk (below_step (by repeat (first | (with_reducible first | exact HB.out | apply below_alloc | apply pw_below_drewN | apply below_drew1 | refine below_set ?_ GE139.out) | exact HB.out)) hb); clear HO142; clear BK139; clear HB; have HO142 := n0_; have HO147 := n1_; have BK139 := n2_; have HB := n3_; clear n0_ n1_ n2_ n3_; (try clear hb); (try clear hb2); (try clear hk); (try clear hi); (try clear ho0)) | ((with_reducible refine gate_callee (f := 32) rfl ?_); refine goesL_ (some 25) rfl rfl Try.func32 (by kernel_rfl) rfl #[.agg #[.int .i64 1, .int .i64 2, .int .i64 512, .int .i64 0, .int .i64 0, .int .i64 0, .int .i64 0]] rfl (by (try simp only [List.map_toArray, List.map_cons, List.map_nil]); first | done | rfl | (simp only [List.length_drop, List.length_take]; rfl)) ?_; (with_reducible refine (node_Inode.calls 1 2 512 0 0 0 0 t148 t149 t150 t151 _ A4.out).mono ?_); rintro e w20 ⟨rfl, hb⟩; refine ⟨_, rfl, ?_⟩; have n0_ := Aside0.mk (Kd.R_below (by (with_reducible repeat (first | apply Kd.R_alloc | apply Kd.R_drewN | apply Kd.R_drew)); exact HO142.out) hb); have n1_ := Aside0.mk (Kd.R_below (by (with_reducible repeat (first | apply Kd.R_alloc | apply Kd.R_drewN | apply Kd.R_drew)); exact HO147.out) hb); have n2_ := Aside0.mk (blk_below (g := gb139) (o := .cells #[.string t135, .string t136, .bool t137] 32 (0, 0)) (by (with_reducible repeat (first | refine blk_drewN ?_ _ | refine blk_drew ?_ | refine blk_alloc ?_ _)); exact BK139.out) hb); have n3_ := Aside0.mk (below_step (by repeat (first | (with_reducible first | exact HB.out | apply below_alloc | apply pw_below_drewN | apply below_drew1 | refine below_set ?_ GE139.out) | exact HB.out)) hb); clear HO142; clear HO147; clear BK139; clear HB; have HO142 := n0_; have HO147 := n1_; have BK139 := n2_; have HB := n3_; clear n0_ n1_ n2_ n3_; (try clear hb); (try clear hb2); (try clear hk); (try clear hi)) | ((with_reducible refine gate_dst (N := 7) rfl ?_); (try (refine gate_guard (by rfl) ?_; dsimp only)); refine box_event ?hg (N := 7) ?hd (cs := #[.string (⟨#[]⟩ : ByteArray), .string (⟨#[]⟩ : ByteArray), .bool false]) (t := 32) ?hr ?_; (case hd => rfl); (case hg => rfl); (case hr => first | (go_simp; done) | (go_simp; rfl)); intro gb152 hg w21 hbox hb; have n0_ := Aside0.mk (Kd.R_below (by (with_reducible repeat (first | apply Kd.R_alloc | apply Kd.R_drewN | apply Kd.R_drew)); exact HO142.out) hb); have n1_ := Aside0.mk (Kd.R_below (by (with_reducible repeat (first | apply Kd.R_alloc | apply Kd.R_drewN | apply Kd.R_drew)); exact HO147.out) hb); have n2_ := Aside0.mk (blk_below (g := gb139) (o := .cells #[.string t135, .string t136, .bool t137] 32 (0, 0)) (by (with_reducible repeat (first | refine blk_drewN ?_ _ | refine blk_drew ?_ | refine blk_alloc ?_ _)); exact BK139.out) hb); have n3_ := Aside0.mk (below_step (by repeat (first | (with_reducible first | exact HB.out | apply below_alloc | apply pw_below_drewN | apply below_drew1 | refine below_set ?_ GE139.out) | exact HB.out)) hb); have n4_ := Aside0.mk (hbox); have n5_ := Aside0.mk ((by rw [hg]; exact (below_size (by repeat (first | (with_reducible first | exact HB.out | apply below_alloc | apply pw_below_drewN | apply below_drew1 | refine below_set ?_ GE139.out) | exact HB.out))) : w.heap.size ≤ gb152)); have n6_ := Aside0.mk ((by rw [hg]; exact (below_size (by repeat (first | (with_reducible first | exact HB.out | apply below_alloc | apply pw_below_drewN | apply below_drew1 | refine below_set ?_ GE139.out) | exact HB.out))) : w.heap.size ≤ gb152)); have n7_ := Aside0.mk ((by rw [hg]; exact Nat.ne_of_lt (blk_lt (g := gb139) (o := .cells #[.string t135, .string t136, .bool t137] 32 (0, 0)) (by (with_reducible repeat (first | refine blk_drewN ?_ _ | refine blk_drew ?_ | refine blk_alloc ?_ _)); exact BK139.out)) : gb139 ≠ gb152)); have n8_ := Aside0.mk ((by rw [hg]; exact Nat.ne_of_gt (blk_lt (g := gb139) (o := .cells #[.string t135, .string t136, .bool t137] 32 (0, 0)) (by (with_reducible repeat (first | refine blk_drewN ?_ _ | refine blk_drew ?_ | refine blk_alloc ?_ _)); exact BK139.out)) : gb152 ≠ gb139)); clear HO142; clear HO147; clear BK139; clear HB; have HO142 := n0_; have HO147 := n1_; have BK139 := n2_; have HB := n3_; have BK152 := n4_; have GW152 := n5_; have GE152 := n6_; have NB139_152 := n7_; have NB152_139 := n8_; clear n0_ n1_ n2_ n3_ n4_ n5_ n6_ n7_ n8_; clear hb hbox hg; have hnb22 := NB152_139.out; have hnc22 := NB139_152.out; have hcz23_0 : w21.cell? ⟨gb152, 0, none⟩ = some (.string (⟨#[]⟩ : ByteArray)) := (blk_cell BK152.out 0).trans rfl; have hcz23_1 : w21.cell? ⟨gb152, 1, none⟩ = some (.string (⟨#[]⟩ : ByteArray)) := (blk_cell BK152.out 1).trans rfl; have hcz23_2 : w21.cell? ⟨gb152, 2, none⟩ = some (.bool false) := (blk_cell BK152.out 2).trans rfl; have hfz23_0 := blk_frozen BK152.out 0; have hfz23_1 := blk_frozen BK152.out 1; have hfz23_2 := blk_frozen BK152.out 2) | ((with_reducible refine gate_callee (f := 12) rfl ?_); refine goesL_ (some 28) rfl rfl Try.func12 (by kernel_rfl) rfl #[.int .i64 258, .string (⟨#[97]⟩ : ByteArray)] rfl (by (try simp only [List.map_toArray, List.map_cons, List.map_nil]); first | done | rfl | (simp only [List.length_drop, List.length_take]; rfl)) ?_; (with_reducible refine (node_EntryKey.calls 258 (⟨#[97]⟩ : ByteArray) t153 _ A5.out).mono ?_); rintro e w24 ⟨rfl, hb⟩; refine ⟨_, rfl, ?_⟩; have n0_ := Aside0.mk (Kd.R_below (by (with_reducible repeat (first | apply Kd.R_alloc | apply Kd.R_drewN | apply Kd.R_drew)); exact (Kd.R_mono (Kd.R_far (p := ⟨gb152, 2, none⟩) (Kd.R_far (p := ⟨gb152, 1, none⟩) (Kd.R_far (p := ⟨gb152, 0, none⟩) (Kd.R_types HO142.out BK152.out (by decide)) (fun _ hk => hk.2) (.string t148)) (fun _ hk => hk.2) (.string t149)) (fun _ hk => hk.2) (.bool t150)) (fun _ h_ => h_.1))) hb); have n1_ := Aside0.mk (Kd.R_below (by (with_reducible repeat (first | apply Kd.R_alloc | apply Kd.R_drewN | apply Kd.R_drew)); exact (Kd.R_mono (Kd.R_far (p := ⟨gb152, 2, none⟩) (Kd.R_far (p := ⟨gb152, 1, none⟩) (Kd.R_far (p := ⟨gb152, 0, none⟩) (Kd.R_types HO147.out BK152.out (by decide)) (fun _ hk => hk.2) (.string t148)) (fun _ hk => hk.2) (.string t149)) (fun _ hk => hk.2) (.bool t150)) (fun _ h_ => h_.1))) hb); have n2_ := Aside0.mk (blk_below (g := gb139) (o := .cells #[.string t135, .string t136, .bool t137] 32 (0, 0)) (by (with_reducible repeat (first | refine blk_drewN ?_ _ | refine blk_drew ?_ | refine blk_alloc ?_ _)); refine blk_far ?_ NB139_152.out _; (with_reducible repeat (first | refine blk_drewN ?_ _ | refine blk_drew ?_ | refine blk_alloc ?_ _)); refine blk_far ?_ NB139_152.out _; (with_reducible repeat (first | refine blk_drewN ?_ _ | refine blk_drew ?_ | refine blk_alloc ?_ _)); refine blk_far ?_ NB139_152.out _; (with_reducible repeat (first | refine blk_drewN ?_ _ | refine blk_drew ?_ | refine blk_alloc ?_ _)); exact BK139.out) hb); have n3_ := Aside0.mk (blk_below (g := gb152) (o := .cells #[.string t148, .string t149, .bool t150] 32 (0, 0)) (by (with_reducible repeat (first | refine blk_drewN ?_ _ | refine blk_drew ?_ | refine blk_alloc ?_ _)); refine blk_put (cs := #[.string t148, .string t149, .bool false]) ?_ 2 _ rfl; (with_reducible repeat (first | refine blk_drewN ?_ _ | refine blk_drew ?_ | refine blk_alloc ?_ _)); refine blk_put (cs := #[.string t148, .string (⟨#[]⟩ : ByteArray), .bool false]) ?_ 1 _ rfl; (with_reducible repeat (first | refine blk_drewN ?_ _ | refine blk_drew ?_ | refine blk_alloc ?_ _)); refine blk_put (cs := #[.string (⟨#[]⟩ : ByteArray), .string (⟨#[]⟩ : ByteArray), .bool false]) ?_ 0 _ rfl; (with_reducible repeat (first | refine blk_drewN ?_ _ | refine blk_drew ?_ | refine blk_alloc ?_ _)); exact BK152.out) hb); have n4_ := Aside0.mk (below_step (by repeat (first | (with_reducible first | exact HB.out | apply below_alloc | apply pw_below_drewN | apply below_drew1 | refine below_set ?_ GE139.out | refine below_set ?_ GE152.out) | exact HB.out)) hb); clear HO142; clear HO147; clear BK139; clear BK152; clear HB; have HO142 := n0_; have HO147 := n1_; have BK139 := n2_; have BK152 := n3_; have HB := n4_; clear n0_ n1_ n2_ n3_ n4_; (try clear hb); (try clear hb2); (try clear hk); (try clear hi)) | (go_at_call 17; (with_reducible refine (node_OrphanKey.calls 7 t154 _ A7.out).mono ?_); rintro e w25 ⟨rfl, hb⟩; have n0_ := Aside0.mk (Kd.R_below (by (with_reducible repeat (first | apply Kd.R_alloc | apply Kd.R_drewN | apply Kd.R_drew)); exact HO142.out) hb); have n1_ := Aside0.mk (Kd.R_below (by (with_reducible repeat (first | apply Kd.R_alloc | apply Kd.R_drewN | apply Kd.R_drew)); exact HO147.out) hb); have n2_ := Aside0.mk (blk_below (g := gb139) (o := .cells #[.string t135, .string t136, .bool t137] 32 (0, 0)) (by (with_reducible repeat (first | refine blk_drewN ?_ _ | refine blk_drew ?_ | refine blk_alloc ?_ _)); exact BK139.out) hb); have n3_ := Aside0.mk (blk_below (g := gb152) (o := .cells #[.string t148, .string t149, .bool t150] 32 (0, 0)) (by (with_reducible repeat (first | refine blk_drewN ?_ _ | refine blk_drew ?_ | refine blk_alloc ?_ _)); exact BK152.out) hb); have n4_ := Aside0.mk (below_step (by repeat (first | (with_reducible first | exact HB.out | apply below_alloc | apply pw_below_drewN | apply below_drew1 | refine below_set ?_ GE139.out | refine below_set ?_ GE152.out) | exact HB.out)) hb); clear HO142; clear HO147; clear BK139; clear BK152; clear HB; have HO142 := n0_; have HO147 := n1_; have BK139 := n2_; have BK152 := n3_; have HB := n4_; clear n0_ n1_ n2_ n3_ n4_; (try clear hb); (try clear hb2); (try clear hk); (try clear hi); have hcz26_0 : w25.cell? ⟨gb139, 0, none⟩ = some (.string t135) := (blk_cell BK139.out 0).trans rfl; have hcz26_1 : w25.cell? ⟨gb139, 1, none⟩ = some (.string t136) := (blk_cell BK139.out 1).trans rfl; have hcz26_2 : w25.cell? ⟨gb139, 2, none⟩ = some (.bool t137) := (blk_cell BK139.out 2).trans rfl; have hfz26_0 := blk_frozen BK139.out 0; have hfz26_1 := blk_frozen BK139.out 1; have hfz26_2 := blk_frozen BK139.out 2; obtain ⟨Ao27, co27, eo27⟩ := Kd.R_slice HO142.out; subst eo27; obtain ⟨Ao28, co28, eo28⟩ := Kd.R_slice HO147.out; subst eo28))
                  go_ret
                  exact ⟨by first | rfl | exact isEmpty_bne_ _ | (simp [errW_none, errW_some] <;> rfl) | (simp [*, errW_none, errW_some] <;> rfl), by repeat (first | (with_reducible first | exact HB.out | apply below_alloc | apply pw_below_drewN | apply below_drew1 | refine below_set ?_ GE139.out | refine below_set ?_ GE152.out) | exact HB.out)⟩
                · rw [if_neg c14] at H
                  exact absurd H (by simp)
              · rw [if_neg c13] at H
                exact absurd H (by simp)
            · rw [if_neg c12] at H
              exact absurd H (by simp)
          · rw [if_neg c11] at H
            exact absurd H (by simp)
        · rw [if_neg c10] at H
          exact absurd H (by simp)
      · rw [if_neg c9] at H
        exact absurd H (by simp)
    · rw [if_neg c8] at H
      exact absurd H (by simp)
  · rw [if_neg c6] at H
    exact absurd H (by simp)

/-! ### pumiceref06_Mark: function 21 -/
def pumiceref06_Mark.f (k : Nat) (a0 : Int) (a1 : Int) : Option (List Int × Int) := if a1 < 1 then (some (([] : List Int), 22)) else (if a1 > 16 then (some (([] : List Int), 22)) else ((some (([3] : List Int) : List Int)).bind fun y155 => ((pumiceref01_Put.f k a0 8).bind fun t158 => (if y155.length + t158.length < 140737488355328 then ((some (y155 ++ t158 : List Int)).bind fun y161 => (if y161.length < 140737488355328 then (some ((y161 ++ [(a1) % 256]), 0)) else (none))) else (none)))))
theorem pumiceref06_Mark.mono : ∀ a0 a1 k, LeO (pumiceref06_Mark.f k a0 a1) (pumiceref06_Mark.f (k + 1) a0 a1) := by
  intro a0 a1 k
  unfold pumiceref06_Mark.f
  repeat' first
      | (with_reducible exact pumiceref01_Put.mono _ _ _)
      | (with_reducible exact LeO.refl _)
      | (with_reducible exact LeO.none _)
      | (with_reducible refine LeO.ite ?_ ?_)
      | (with_reducible refine LeO.bind ?_ (fun _ => ?_))
      | exact pumiceref01_Put.mono _ _ _
      | exact LeO.none _
      | refine LeO.ite ?_ ?_
      | refine LeO.bind ?_ (fun _ => ?_)
set_option maxHeartbeats 8000000 in
set_option maxRecDepth 100000 in
theorem pumiceref06_Mark.calls (k : Nat) (a0 : Int) (a1 : Int) (r1 : List Int) (r2 : Int) (w : World) (h : pumiceref06_Mark.f k a0 a1 = some (r1, r2)) :
    Calls Try.prog 21 #[.int .u64 a0, .int .i64 a1] w fun e w' => ∃ v0_ : Value, e = .returned (.tuple #[v0_, .int .i64 r2]) ∧ Kd.R (Kd.int .u8) 5 w' w.heap.size (fun _ => True) v0_ r1 ∧ Below w.heap.size w w' := by
  have HB := Aside0.mk (Below.refl w.heap.size w)
  have H : (if a1 < 1 then (some (([] : List Int), 22)) else (if a1 > 16 then (some (([] : List Int), 22)) else ((some (([3] : List Int) : List Int)).bind fun y155 => ((pumiceref01_Put.f k a0 8).bind fun t158 => (if y155.length + t158.length < 140737488355328 then ((some (y155 ++ t158 : List Int)).bind fun y161 => (if y161.length < 140737488355328 then (some ((y161 ++ [(a1) % 256]), 0)) else (none))) else (none)))))) = some (r1, r2) := h
  clear h
  by_cases c3 : a1 < 1
  · rw [if_pos c3] at H
    have c3b0 : decide (a1 < 1) = true := decide_eq_true c3
    clear c3
    simp only [Option.some.injEq, Prod.mk.injEq] at H
    obtain ⟨rfl, rfl⟩ := H
    go_enter Try.func21, Try.ntmps21
    go_wp2
    go_ret2
    exact ⟨_, by first | rfl | (simp [errW_none, errW_some] <;> rfl) | (simp [*, errW_none, errW_some] <;> rfl), by first | exact Kd.R_nil _ _ _ _ _ | exact Kd.N_nil _ _ _ _ _ | exact Kd.V_nil _ _ _ _ _ | exact Kd.Q_nil _ _ _ _ _ | exact Kd.S_nil _ _ _ _ _, by repeat (first | (with_reducible first | exact HB.out | apply below_alloc | apply pw_below_drewN | apply below_drew1) | exact HB.out)⟩
  · rw [if_neg c3] at H
    have c3b0 : decide (a1 < 1) = false := decide_eq_false c3
    clear c3
    by_cases c4 : a1 > 16
    · rw [if_pos c4] at H
      have c4b0 : decide (16 < a1) = true := decide_eq_true c4
      clear c4
      simp only [Option.some.injEq, Prod.mk.injEq] at H
      obtain ⟨rfl, rfl⟩ := H
      go_enter Try.func21, Try.ntmps21
      go_wp2
      go_ret2
      exact ⟨_, by first | rfl | (simp [errW_none, errW_some] <;> rfl) | (simp [*, errW_none, errW_some] <;> rfl), by first | exact Kd.R_nil _ _ _ _ _ | exact Kd.N_nil _ _ _ _ _ | exact Kd.V_nil _ _ _ _ _ | exact Kd.Q_nil _ _ _ _ _ | exact Kd.S_nil _ _ _ _ _, by repeat (first | (with_reducible first | exact HB.out | apply below_alloc | apply pw_below_drewN | apply below_drew1) | exact HB.out)⟩
    · rw [if_neg c4] at H
      have c4b0 : decide (16 < a1) = false := decide_eq_false c4
      clear c4
      obtain ⟨y155, hy155⟩ : ∃ y_ : List Int, y_ = (([3] : List Int)) := ⟨_, rfl⟩
      replace H : ((pumiceref01_Put.f k a0 8).bind fun t158 => (if y155.length + t158.length < 140737488355328 then ((some (y155 ++ t158 : List Int)).bind fun y161 => (if y161.length < 140737488355328 then (some ((y161 ++ [(a1) % 256]), 0)) else (none))) else (none))) = some (r1, r2) := by first | (rw [hy155]; with_reducible exact H) | (have H2_ := (Option.bind_some _ _).symm.trans H; rw [hy155]; with_reducible exact H2_) | (have H2_ := (Option.bind_some _ _).symm.trans H; with_reducible exact H2_) | with_reducible exact H | (rw [hy155]; exact H) | exact H
      have Ny155 := Aside0.mk hy155
      clear hy155
      replace H := Option.bind_eq_some_iff.mp H
      obtain ⟨t158, A50, H⟩ := H
      replace H : (if y155.length + t158.length < 140737488355328 then ((some (y155 ++ t158 : List Int)).bind fun y161 => (if y161.length < 140737488355328 then (some ((y161 ++ [(a1) % 256]), 0)) else (none))) else (none)) = some (r1, r2) := H
      have A5 := Aside0.mk A50
      clear A50
      by_cases c6 : y155.length + t158.length < 140737488355328
      · rw [if_pos c6] at H
        have LMc6 := Aside0.mk c6
        clear c6
        obtain ⟨y161, hy161⟩ : ∃ y_ : List Int, y_ = (y155 ++ t158) := ⟨_, rfl⟩
        replace H : (if y161.length < 140737488355328 then (some ((y161 ++ [(a1) % 256]), 0)) else (none)) = some (r1, r2) := by first | (rw [hy161]; with_reducible exact H) | (have H2_ := (Option.bind_some _ _).symm.trans H; rw [hy161]; with_reducible exact H2_) | (have H2_ := (Option.bind_some _ _).symm.trans H; with_reducible exact H2_) | with_reducible exact H | (rw [hy161]; exact H) | exact H
        have Ny161 := Aside0.mk hy161
        clear hy161
        by_cases c7 : y161.length < 140737488355328
        · rw [if_pos c7] at H
          have LMc7 := Aside0.mk c7
          clear c7
          obtain ⟨y164, hy164⟩ : ∃ y_ : List Int, y_ = (y161 ++ [(a1) % 256]) := ⟨_, rfl⟩
          replace H : (some (y164, 0)) = some (r1, r2) := by first | (rw [hy164]; with_reducible exact H) | (have H2_ := (Option.bind_some _ _).symm.trans H; rw [hy164]; with_reducible exact H2_) | (have H2_ := (Option.bind_some _ _).symm.trans H; with_reducible exact H2_) | with_reducible exact H | (rw [hy164]; exact H) | exact H
          have Ny164 := Aside0.mk hy164
          clear hy164
          simp only [Option.some.injEq, Prod.mk.injEq] at H
          obtain ⟨rfl, rfl⟩ := H
          go_enter Try.func21, Try.ntmps21
          go_wp2_with (first | ((with_reducible refine gate_dst (N := 13) rfl ?_); refine Kd.R_lit (Kd.int .u8) _ 5 ?hg (N := 13) ?hd (xs := ([3] : List Int)) (inner := [.int .u8 3]) (ok := fun _ => True) (okp := fun _ => True) ?hr ?hp (fun _ hk => hk) trivial (Below.refl _ _) (Nat.le_refl _) (by simp) ?_; (case hd => rfl); (case hg => rfl); (case hr => first | (go_simp; done) | (go_simp; rfl)); (case hp => exact (Reps.one (show Kd.M (Kd.int .u8) _ _ _ 3 [.int .u8 3] from rfl) (Reps.none _ _))); intro v156 w8 ho9 hb hg_ hnew_; clear hg_ hnew_; (first | rw [← Ny155.out] at ho9 | (simp only [Int.reduceToNat] at ho9; rw [← Ny155.out] at ho9)); have n0_ := Aside0.mk (Kd.R_lower ho9 (below_size (by repeat (first | (with_reducible first | exact HB.out | apply below_alloc | apply pw_below_drewN | apply below_drew1) | exact HB.out)))); have n1_ := Aside0.mk (below_step (by repeat (first | (with_reducible first | exact HB.out | apply below_alloc | apply pw_below_drewN | apply below_drew1) | exact HB.out)) hb); clear HB; have HO157 := n0_; have HB := n1_; clear n0_ n1_; clear hb ho9) | ((with_reducible refine gate_callee (f := 49) rfl ?_); refine goesL_ (some 16) rfl rfl Try.func49 (by kernel_rfl) rfl #[.int .u64 a0, .int .i64 8] rfl (by (try simp only [List.map_toArray, List.map_cons, List.map_nil]); first | done | rfl | (simp only [List.length_drop, List.length_take]; rfl)) ?_; (with_reducible refine (pumiceref01_Put.calls k a0 8 t158 _ A5.out).mono ?_); rintro e w10 ⟨v159, rfl, ho0, hb⟩; refine ⟨_, rfl, ?_⟩; have n0_ := Aside0.mk (Kd.R_elder' (by (with_reducible repeat (first | apply Kd.R_alloc | apply Kd.R_drewN | apply Kd.R_drew)); exact HO157.out) (Kd.R_base ho0) hb); have n1_ := Aside0.mk (Kd.R_lower (Kd.R_new' ho0 (Kd.R_lt (by (with_reducible repeat (first | apply Kd.R_alloc | apply Kd.R_drewN | apply Kd.R_drew)); exact HO157.out))) (below_size (by repeat (first | (with_reducible first | exact HB.out | apply below_alloc | apply pw_below_drewN | apply below_drew1) | exact HB.out)))); have n2_ := Aside0.mk (below_step (by repeat (first | (with_reducible first | exact HB.out | apply below_alloc | apply pw_below_drewN | apply below_drew1) | exact HB.out)) hb); clear HO157; clear HB; have HO157 := n0_; have HO160 := n1_; have HB := n2_; clear n0_ n1_ n2_; (try clear hb); (try clear hb2); (try clear hk); (try clear hi); (try clear ho0); obtain ⟨Ao12, co12, eo12⟩ := Kd.R_slice HO160.out; subst eo12) | ((with_reducible refine gate_builtin (b := .append) (xs := #[.tmp 14, .tmp 16]) rfl ?_); at_builtin; refine Kd.R_append_rows (Kd.int .u8) (w0 := w) w.heap.size rfl (.tmp 14) (.tmp 16) 34 5 (.int .u8 0) 1 rfl Try.underlying34 info5 rfl (by decide) (by omega) v156 y155 t158 _ _ _ (fun k_ => some k_ ≠ (.slice Ao12 t158.length co12 : Value).ownBlock) (fun _ => False) rfl rfl ?aO ?aR (fun _ _ h => h) (fun _ h => h.elim) ?aF ?aB ?aS ?aL ?_; (case aR => repeat (first | exact (Kd.R_reads' HO160.out).2.2 | (with_reducible refine Kd.C_alloc ?_ _) | (with_reducible refine Kd.C_drewN ?_ _) | (with_reducible refine Kd.C_drew ?_))); (case aB => exact (by repeat (first | (with_reducible first | exact HB.out | apply below_alloc | apply pw_below_drewN | apply below_drew1) | exact HB.out))); (case aF => exact (fun k_ hk => Kd.fresh' (Kd.R_lt (by (with_reducible repeat (first | apply Kd.R_alloc | apply Kd.R_drewN | apply Kd.R_drew)); exact HO160.out)) k_ hk)); (case aO => exact (by (with_reducible repeat (first | apply Kd.R_alloc | apply Kd.R_drewN | apply Kd.R_drew)); exact Kd.R_mono HO157.out (fun _ hk => hk.2))); (case aS => exact (below_size (by repeat (first | (with_reducible first | exact HB.out | apply below_alloc | apply pw_below_drewN | apply below_drew1) | exact HB.out)))); (case aL => have := LMc6.out; omega); intro v162 w11 ho hb hg hat; rw [← Ny161.out] at ho; have n0_ := Aside0.mk (Kd.R_after (ok := (fun _ => True)) (by (with_reducible repeat (first | apply Kd.R_alloc | apply Kd.R_drewN | apply Kd.R_drew)); exact HO160.out) hg hat); have n1_ := Aside0.mk (hb); have n2_ := Aside0.mk (ho); clear HO160; clear HB; clear HO157; have HO160 := n0_; have HB := n1_; have HO163 := n2_; clear n0_ n1_ n2_; clear ho hb hg hat) | ((with_reducible refine gate_builtin (b := .append) (xs := #[.tmp 18, .tmp 21]) rfl ?_); at_builtin; refine Kd.R_append (Kd.int .u8) (w0 := w) w.heap.size rfl (.tmp 18) (.tmp 21) 34 5 (.int .u8 0) 1 rfl Try.underlying34 info5 rfl (by decide) (by omega) v162 y161 ((a1) % 256) [.int .u8 ((a1) % 256)] (fun k_ => some k_ ≠ (.slice Ao12 t158.length co12 : Value).ownBlock) (fun _ => False) rfl rfl ?aP (fun _ hk => hk.elim) ?aF ?aO ?aB ?aS ?aL ?_; (case aP => exact rfl); (case aB => exact (by repeat (first | (with_reducible first | exact HB.out | apply below_alloc | apply pw_below_drewN | apply below_drew1) | exact HB.out))); (case aF => exact (fun k_ hk => Kd.fresh' (Kd.R_lt (by (with_reducible repeat (first | apply Kd.R_alloc | apply Kd.R_drewN | apply Kd.R_drew)); exact HO160.out)) k_ hk)); (case aO => exact (by (with_reducible repeat (first | apply Kd.R_alloc | apply Kd.R_drewN | apply Kd.R_drew)); exact HO163.out)); (case aS => exact (below_size (by repeat (first | (with_reducible first | exact HB.out | apply below_alloc | apply pw_below_drewN | apply below_drew1) | exact HB.out)))); (case aL => have := LMc7.out; omega); intro v165 w13 ho hb hg hat; rw [← Ny164.out] at ho; have n0_ := Aside0.mk (Kd.R_after (ok := (fun _ => True)) (by (with_reducible repeat (first | apply Kd.R_alloc | apply Kd.R_drewN | apply Kd.R_drew)); exact HO160.out) hg hat); have n1_ := Aside0.mk (hb); have n2_ := Aside0.mk (ho); clear HO160; clear HB; clear HO163; have HO160 := n0_; have HB := n1_; have HO166 := n2_; clear n0_ n1_ n2_; clear ho hb hg hat))
          go_ret2
          exact ⟨_, by first | rfl | (simp [errW_none, errW_some] <;> rfl) | (simp [*, errW_none, errW_some] <;> rfl), by (with_reducible repeat (first | apply Kd.R_alloc | apply Kd.R_drewN | apply Kd.R_drew)); exact Kd.R_mono HO166.out (fun _ hk => trivial), by repeat (first | (with_reducible first | exact HB.out | apply below_alloc | apply pw_below_drewN | apply below_drew1) | exact HB.out)⟩
        · rw [if_neg c7] at H
          exact absurd H (by simp)
      · rw [if_neg c6] at H
        exact absurd H (by simp)

/-! ### node_Size: function 24 -/
def node_Size.f (a0_0 : ByteArray) (a0_1 : ByteArray) (a0_2 : Bool) : Option (Int) := (node_Pack.f a0_0 a0_1 a0_2).bind fun bt168 => (if bt168.2 = 0 then (some (wrap64 (6 + (bt168.1.length : Int)))) else (some 0))
set_option maxHeartbeats 8000000 in
set_option maxRecDepth 100000 in
theorem node_Size.calls (a0_0 : ByteArray) (a0_1 : ByteArray) (a0_2 : Bool) (r : Int) (w : World) (h : node_Size.f a0_0 a0_1 a0_2 = some r) :
    Calls Try.prog 24 #[.agg #[.string a0_0, .string a0_1, .bool a0_2]] w fun e w' => e = .returned (.int .i64 r) ∧ Below w.heap.size w w' := by
  have hu32 := Try.underlying32
  have HB := Aside0.mk (Below.refl w.heap.size w)
  have H : ((node_Pack.f a0_0 a0_1 a0_2).bind fun bt168 => (if bt168.2 = 0 then (some (wrap64 (6 + (bt168.1.length : Int)))) else (some 0))) = some r := h
  clear h
  replace H := Option.bind_eq_some_iff.mp H
  obtain ⟨⟨t168, t171⟩, A20, H⟩ := H
  replace H : (if t171 = 0 then (some (wrap64 (6 + (t168.length : Int)))) else (some 0)) = some r := H
  have A2 := Aside0.mk A20
  clear A20
  by_cases c3 : t171 = 0
  · rw [if_pos c3] at H
    have c3b0 : (t171 == 0) = true := beq_iff_eq.mpr c3
    have c3b1 : (t171 != 0) = false := bne_eq_false_iff_eq.mpr c3
    clear c3
    obtain rfl := Option.some.inj H
    go_enter Try.func24, Try.ntmps24
    go_wp2_with (first | ((with_reducible refine gate_dst (N := 1) rfl ?_); refine box_event ?hg (N := 1) ?hd (cs := #[.string a0_0, .string a0_1, .bool a0_2]) (t := 32) ?hr ?_; (case hd => rfl); (case hg => rfl); (case hr => first | (go_simp; done) | (go_simp; rfl)); intro gb167 hg w4 hbox hb; have n0_ := Aside0.mk (below_step (by repeat (first | (with_reducible first | exact HB.out | apply below_alloc | apply pw_below_drewN | apply below_drew1) | exact HB.out)) hb); have n1_ := Aside0.mk (hbox); have n2_ := Aside0.mk ((by rw [hg]; exact (below_size (by repeat (first | (with_reducible first | exact HB.out | apply below_alloc | apply pw_below_drewN | apply below_drew1) | exact HB.out))) : w.heap.size ≤ gb167)); have n3_ := Aside0.mk ((by rw [hg]; exact (below_size (by repeat (first | (with_reducible first | exact HB.out | apply below_alloc | apply pw_below_drewN | apply below_drew1) | exact HB.out))) : w.heap.size ≤ gb167)); clear HB; have HB := n0_; have BK167 := n1_; have GW167 := n2_; have GE167 := n3_; clear n0_ n1_ n2_ n3_; clear hb hbox hg; have hcz5_0 : w4.cell? ⟨gb167, 0, none⟩ = some (.string a0_0) := (blk_cell BK167.out 0).trans rfl; have hcz5_1 : w4.cell? ⟨gb167, 1, none⟩ = some (.string a0_1) := (blk_cell BK167.out 1).trans rfl; have hcz5_2 : w4.cell? ⟨gb167, 2, none⟩ = some (.bool a0_2) := (blk_cell BK167.out 2).trans rfl; have hfz5_0 := blk_frozen BK167.out 0; have hfz5_1 := blk_frozen BK167.out 1; have hfz5_2 := blk_frozen BK167.out 2) | ((with_reducible refine gate_callee (f := 18) rfl ?_); refine goesL_ (some 7) rfl rfl Try.func18 (by kernel_rfl) rfl #[.agg #[.string a0_0, .string a0_1, .bool a0_2]] rfl (by (try simp only [List.map_toArray, List.map_cons, List.map_nil]); first | done | rfl | (simp only [List.length_drop, List.length_take]; rfl)) ?_; (with_reducible refine (node_Pack.calls a0_0 a0_1 a0_2 t168 t171 _ A2.out).mono ?_); rintro e w6 ⟨v169, rfl, ho0, hb⟩; refine ⟨_, rfl, ?_⟩; have n0_ := Aside0.mk (Kd.R_lower ho0 (below_size (by repeat (first | (with_reducible first | exact HB.out | apply below_alloc | apply pw_below_drewN | apply below_drew1 | refine below_set ?_ GE167.out) | exact HB.out)))); have n1_ := Aside0.mk (blk_below (g := gb167) (o := .cells #[.string a0_0, .string a0_1, .bool a0_2] 32 (0, 0)) (by (with_reducible repeat (first | refine blk_drewN ?_ _ | refine blk_drew ?_ | refine blk_alloc ?_ _)); exact BK167.out) hb); have n2_ := Aside0.mk (below_step (by repeat (first | (with_reducible first | exact HB.out | apply below_alloc | apply pw_below_drewN | apply below_drew1 | refine below_set ?_ GE167.out) | exact HB.out)) hb); clear BK167; clear HB; have HO170 := n0_; have BK167 := n1_; have HB := n2_; clear n0_ n1_ n2_; (try clear hb); (try clear hb2); (try clear hk); (try clear hi); (try clear ho0); obtain ⟨Ao7, co7, eo7⟩ := Kd.R_slice HO170.out; subst eo7))
    go_ret
    exact ⟨by first | rfl | exact isEmpty_bne_ _ | (simp [errW_none, errW_some] <;> rfl) | (simp [*, errW_none, errW_some] <;> rfl), by repeat (first | (with_reducible first | exact HB.out | apply below_alloc | apply pw_below_drewN | apply below_drew1 | refine below_set ?_ GE167.out) | exact HB.out)⟩
  · rw [if_neg c3] at H
    have c3b0 : (t171 == 0) = false := beq_eq_false_iff_ne.mpr c3
    have c3b1 : (t171 != 0) = true := bne_iff_ne.mpr c3
    obtain rfl := Option.some.inj H
    go_enter Try.func24, Try.ntmps24
    go_wp2_with (first | ((with_reducible refine gate_dst (N := 1) rfl ?_); refine box_event ?hg (N := 1) ?hd (cs := #[.string a0_0, .string a0_1, .bool a0_2]) (t := 32) ?hr ?_; (case hd => rfl); (case hg => rfl); (case hr => first | (go_simp; done) | (go_simp; rfl)); intro gb167 hg w8 hbox hb; have n0_ := Aside0.mk (below_step (by repeat (first | (with_reducible first | exact HB.out | apply below_alloc | apply pw_below_drewN | apply below_drew1) | exact HB.out)) hb); have n1_ := Aside0.mk (hbox); have n2_ := Aside0.mk ((by rw [hg]; exact (below_size (by repeat (first | (with_reducible first | exact HB.out | apply below_alloc | apply pw_below_drewN | apply below_drew1) | exact HB.out))) : w.heap.size ≤ gb167)); have n3_ := Aside0.mk ((by rw [hg]; exact (below_size (by repeat (first | (with_reducible first | exact HB.out | apply below_alloc | apply pw_below_drewN | apply below_drew1) | exact HB.out))) : w.heap.size ≤ gb167)); clear HB; have HB := n0_; have BK167 := n1_; have GW167 := n2_; have GE167 := n3_; clear n0_ n1_ n2_ n3_; clear hb hbox hg; have hcz9_0 : w8.cell? ⟨gb167, 0, none⟩ = some (.string a0_0) := (blk_cell BK167.out 0).trans rfl; have hcz9_1 : w8.cell? ⟨gb167, 1, none⟩ = some (.string a0_1) := (blk_cell BK167.out 1).trans rfl; have hcz9_2 : w8.cell? ⟨gb167, 2, none⟩ = some (.bool a0_2) := (blk_cell BK167.out 2).trans rfl; have hfz9_0 := blk_frozen BK167.out 0; have hfz9_1 := blk_frozen BK167.out 1; have hfz9_2 := blk_frozen BK167.out 2) | ((with_reducible refine gate_callee (f := 18) rfl ?_); refine goesL_ (some 7) rfl rfl Try.func18 (by kernel_rfl) rfl #[.agg #[.string a0_0, .string a0_1, .bool a0_2]] rfl (by (try simp only [List.map_toArray, List.map_cons, List.map_nil]); first | done | rfl | (simp only [List.length_drop, List.length_take]; rfl)) ?_; (with_reducible refine (node_Pack.calls a0_0 a0_1 a0_2 t168 t171 _ A2.out).mono ?_); rintro e w10 ⟨v169, rfl, ho0, hb⟩; refine ⟨_, rfl, ?_⟩; have n0_ := Aside0.mk (Kd.R_lower ho0 (below_size (by repeat (first | (with_reducible first | exact HB.out | apply below_alloc | apply pw_below_drewN | apply below_drew1 | refine below_set ?_ GE167.out) | exact HB.out)))); have n1_ := Aside0.mk (blk_below (g := gb167) (o := .cells #[.string a0_0, .string a0_1, .bool a0_2] 32 (0, 0)) (by (with_reducible repeat (first | refine blk_drewN ?_ _ | refine blk_drew ?_ | refine blk_alloc ?_ _)); exact BK167.out) hb); have n2_ := Aside0.mk (below_step (by repeat (first | (with_reducible first | exact HB.out | apply below_alloc | apply pw_below_drewN | apply below_drew1 | refine below_set ?_ GE167.out) | exact HB.out)) hb); clear BK167; clear HB; have HO170 := n0_; have BK167 := n1_; have HB := n2_; clear n0_ n1_ n2_; (try clear hb); (try clear hb2); (try clear hk); (try clear hi); (try clear ho0)))
    go_ret
    exact ⟨by first | rfl | exact isEmpty_bne_ _ | (simp [errW_none, errW_some] <;> rfl) | (simp [*, errW_none, errW_some] <;> rfl), by repeat (first | (with_reducible first | exact HB.out | apply below_alloc | apply pw_below_drewN | apply below_drew1 | refine below_set ?_ GE167.out) | exact HB.out)⟩

end Go.Proofs.Ytakchpeohmkpkaa.Q

namespace Go.Proofs.Ytakchpeohmkpkaa.Q
open Go.RowKit Go.Proofs.YtakchpeohmkpkaaW.PrintWords
set_option linter.unusedVariables false
set_option linter.unusedSimpArgs false

def u8_ (x : Int) : UInt8 := UInt8.ofNat x.toNat
theorem u8_nat {x : Int} (h0 : 0 ≤ x) (h1 : x < 256) : ((u8_ x).toNat : Int) = x := by
  unfold u8_
  rw [UInt8.toNat_ofNat']
  omega
theorem u8_eq {a b : Int} (ha : 0 ≤ a ∧ a < 256) (hb : 0 ≤ b ∧ b < 256) : (u8_ a = u8_ b) ↔ a = b := by
  rw [← UInt8.toNat_inj]
  have := u8_nat ha.1 ha.2
  have := u8_nat hb.1 hb.2
  omega
theorem app_list (a b : ByteArray) : (a ++ b).toList = a.toList ++ b.toList := by
  rw [Lib.toList_data, Lib.toList_data, Lib.toList_data]
  simp
theorem str_list (xs : List Int) : (strOfNums xs).toList = xs.map u8_ := by
  rw [Lib.toList_data, strOfNums_data]
  rfl
def hi (x : Int) : Int := x / 256 % 256
def lo (x : Int) : Int := x % 256
theorem hi_r (x : Int) : 0 ≤ hi x ∧ hi x < 256 := by unfold hi; omega
theorem lo_r (x : Int) : 0 ≤ lo x ∧ lo x < 256 := by unfold lo; omega
theorem two_ok (x : Int) : ∃ b, node_two.f x = some b ∧ b.toList = [u8_ (hi x), u8_ (lo x)] ∧ b.size = 2 := by
  refine ⟨_, rfl, ?_, ?_⟩
  · rw [str_list]; rfl
  · rw [strOfNums_size]; rfl
theorem key_ok (x k : Int) (h0 : 0 ≤ k) (h1 : k < 256) : ∃ b, node_key.f x k = some b ∧ b.toList = [u8_ (hi x), u8_ (lo x), u8_ k] ∧ b.size = 3 := by
  obtain ⟨t, ht, hl, hs⟩ := two_ok x
  unfold node_key.f
  rw [ht, Option.bind_some, Option.bind_some, strOfNums_size]
  rw [if_pos (by rw [hs]; simp)]
  refine ⟨_, rfl, ?_, ?_⟩
  · rw [app_list, hl, str_list]
    simp
    rw [show k % 256 = k from by omega]
  · rw [ByteArray.size_append, hs, strOfNums_size]; rfl
theorem entry_ok (x : Int) (a : ByteArray) (h : a.size ≤ 140737488355328) : ∃ b, node_EntryKey.f x a = some b ∧ b.toList = u8_ (hi x) :: u8_ (lo x) :: u8_ 2 :: a.toList := by
  obtain ⟨t, ht, hl, hs⟩ := key_ok x 2 (by omega) (by omega)
  unfold node_EntryKey.f
  rw [ht, Option.bind_some, if_pos (by omega)]
  exact ⟨_, rfl, by rw [app_list, hl]; rfl⟩
theorem inode_ok (x : Int) : ∃ b, node_InodeKey.f x = some b ∧ b.toList = [u8_ (hi x), u8_ (lo x), u8_ 1] := by
  obtain ⟨t, ht, hl, hs⟩ := key_ok x 1 (by omega) (by omega)
  unfold node_InodeKey.f
  rw [ht, Option.bind_some]
  exact ⟨_, rfl, hl⟩
set_option maxRecDepth 100000 in
theorem alive_true : pumicelaw06_alive.f = some true := by decide +kernel
end Go.Proofs.Ytakchpeohmkpkaa.Q

namespace Go.Proofs.Ytakchpeohmkpkaa.Q
open Go.RowKit Go.Proofs.YtakchpeohmkpkaaW.PrintWords Go.Proofs.YtakchpeohmkpkaaW.PrintLast Go.Proofs.YtakchpeohmkpkaaW.PrintMore
attribute [local go_sem] max2_int min2_int max_two min_two max_three min_three max_four min_four   -- for this text's walks alone
set_option linter.unusedVariables false
set_option linter.unusedSimpArgs false

theorem eqA32 (d : Nat) (w : World) (x0 y0 : ByteArray) (x1 y1 : ByteArray) (x2 y2 : Bool) :
    (Op.equalIn (d + 2) 32 (.agg #[.string x0, .string x1, .bool x2]) (.agg #[.string y0, .string y1, .bool y2])).run Try.prog w = .ok (x0.toList == y0.toList && (x1.toList == y1.toList && (x2 == y2))) w := by
  refine eqA_of Try.underlying32 (by kernel_rfl) ?_
  refine eqf_cons (by rfl) (by go_simp; rfl) (by go_simp; rfl) (by go_simp) ?_
  refine eqf_cons (by rfl) (by go_simp; rfl) (by go_simp; rfl) (by go_simp) ?_
  exact eqf_last (by rfl) (by go_simp; rfl) (by go_simp; rfl) (by go_simp)
end Go.Proofs.Ytakchpeohmkpkaa.Q

namespace Go.Proofs.Ytakchpeohmkpkaa.Q
open Go.RowKit Go.Proofs.YtakchpeohmkpkaaW.PrintWords Go.Proofs.YtakchpeohmkpkaaW.PrintLast Go.Proofs.YtakchpeohmkpkaaW.PrintMore
attribute [local go_sem] max2_int min2_int max_two min_two max_three min_three max_four min_four   -- for this text's walks alone
set_option linter.unusedVariables false
set_option linter.unusedSimpArgs false

theorem eqA52 (d : Nat) (w : World) (x0 y0 : Int) (x1 y1 : Int) (x2 y2 : Int) (x3 y3 : Int) (x4 y4 : Int) (x5 y5 : Int) (x6 y6 : Int) :
    (Op.equalIn (d + 2) 52 (.agg #[.int .i64 x0, .int .i64 x1, .int .i64 x2, .int .i64 x3, .int .i64 x4, .int .i64 x5, .int .i64 x6]) (.agg #[.int .i64 y0, .int .i64 y1, .int .i64 y2, .int .i64 y3, .int .i64 y4, .int .i64 y5, .int .i64 y6])).run Try.prog w = .ok (x0 == y0 && (x1 == y1 && (x2 == y2 && (x3 == y3 && (x4 == y4 && (x5 == y5 && (x6 == y6))))))) w := by
  refine eqA_of Try.underlying52 (by kernel_rfl) ?_
  refine eqf_cons (by rfl) (by go_simp; rfl) (by go_simp; rfl) (by go_simp) ?_
  refine eqf_cons (by rfl) (by go_simp; rfl) (by go_simp; rfl) (by go_simp) ?_
  refine eqf_cons (by rfl) (by go_simp; rfl) (by go_simp; rfl) (by go_simp) ?_
  refine eqf_cons (by rfl) (by go_simp; rfl) (by go_simp; rfl) (by go_simp) ?_
  refine eqf_cons (by rfl) (by go_simp; rfl) (by go_simp; rfl) (by go_simp) ?_
  refine eqf_cons (by rfl) (by go_simp; rfl) (by go_simp; rfl) (by go_simp) ?_
  exact eqf_last (by rfl) (by go_simp; rfl) (by go_simp; rfl) (by go_simp)
end Go.Proofs.Ytakchpeohmkpkaa.Q

namespace Go.Proofs.Ytakchpeohmkpkaa.Q
open Go.RowKit Go.Proofs.YtakchpeohmkpkaaW.PrintWords Go.Proofs.YtakchpeohmkpkaaW.PrintLast Go.Proofs.YtakchpeohmkpkaaW.PrintMore
attribute [local go_sem] max2_int min2_int max_two min_two max_three min_three max_four min_four   -- for this text's walks alone
set_option linter.unusedVariables false
set_option linter.unusedSimpArgs false

theorem eqA59 (d : Nat) (w : World) (x0 y0 : ByteArray) (x1 y1 : Int) (x2 y2 : Int) :
    (Op.equalIn (d + 2) 59 (.agg #[.string x0, .int .i64 x1, .int .i64 x2]) (.agg #[.string y0, .int .i64 y1, .int .i64 y2])).run Try.prog w = .ok (x0.toList == y0.toList && (x1 == y1 && (x2 == y2))) w := by
  refine eqA_of Try.underlying59 (by kernel_rfl) ?_
  refine eqf_cons (by rfl) (by go_simp; rfl) (by go_simp; rfl) (by go_simp) ?_
  refine eqf_cons (by rfl) (by go_simp; rfl) (by go_simp; rfl) (by go_simp) ?_
  exact eqf_last (by rfl) (by go_simp; rfl) (by go_simp; rfl) (by go_simp)
end Go.Proofs.Ytakchpeohmkpkaa.Q

namespace Go.Proofs.Ytakchpeohmkpkaa.Q
open Go.RowKit Go.Proofs.YtakchpeohmkpkaaW.PrintWords Go.Proofs.YtakchpeohmkpkaaW.PrintLast Go.Proofs.YtakchpeohmkpkaaW.PrintMore
set_option linter.unusedVariables false
set_option linter.unusedSimpArgs false

def goodIno_ (a : Int) : Bool := decide (1 ≤ a) && decide (a ≤ 4096)
def goodKind_ (a : Int) : Bool := decide (1 ≤ a) && decide (a ≤ 3)
def node_Entry.f (a0 : Int) (n : ByteArray) (i kd : Int) : Option (ByteArray × ByteArray × Bool × Int) :=
  (names_Right.f n).bind fun e => if (goodIno_ a0 && (e == 0) && goodIno_ i && goodKind_ kd) = true then (node_EntryKey.f a0 n).bind fun k => some (k, strOfNums (leBytes i 2 ++ leBytes kd 1), false, 0) else some (⟨#[]⟩, ⟨#[]⟩, false, 22)

set_option maxHeartbeats 8000000 in
set_option maxRecDepth 100000 in
theorem entry_no0 (a0 : Int) (n : ByteArray) (i kd rr : Int) (w : World) (h0 : goodIno_ a0 = false) : Calls Try.prog 36 #[.int .i64 a0, .agg #[.string n, .int .i64 i, .int .i64 kd]] w fun e w' => e = .returned (.tuple #[.agg #[.string ⟨#[]⟩, .string ⟨#[]⟩, .bool false], .int .i64 22]) ∧ Below w.heap.size w w' := by
  have hu59 := Try.underlying59
  have hu32 := Try.underlying32
  have G0 := Aside0.mk (goodIno_f a0 _ h0)
  go_enter Try.func36, Try.ntmps36
  go_wp2_with (first
    | (go_at_call 56; (with_reducible refine (node_goodIno.calls a0 false _ G0.out).mono ?_); rintro e w' ⟨rfl, ⟨nd0, rfl⟩⟩))
  have hr0 : Blk ((w.alloc (.cells #[.string n, .int .i64 i, .int .i64 kd] 59)).alloc (.cells #[.string ⟨#[]⟩, .string ⟨#[]⟩, .bool false] 32)) (w.heap.size + 1) #[.string ⟨#[]⟩, .string ⟨#[]⟩, .bool false] 32 := by simpa using Blk.fresh (w.alloc (.cells #[.string n, .int .i64 i, .int .i64 kd] 59)) #[.string ⟨#[]⟩, .string ⟨#[]⟩, .bool false] 32
  have hb0 : Below w.heap.size w ((w.alloc (.cells #[.string n, .int .i64 i, .int .i64 kd] 59)).alloc (.cells #[.string ⟨#[]⟩, .string ⟨#[]⟩, .bool false] 32)) := below_alloc (below_alloc (Below.refl _ _) _) _
  refine bodyPost_ret (results_ct rfl _ _ (w.heap.size + 1) 32 #[.string ⟨#[]⟩, .string ⟨#[]⟩, .bool false] (0, 0) _ rfl (stored (w := w) (b := w.heap.size + 1) (by exact hr0) (by repeat (first | exact hb0 | apply pw_below_drewN | apply below_drew1)) (Nat.le_succ _) _ _).1 Try.underlying32 rfl (by kernel_rfl)) rfl ?_
  exact ⟨rfl, (stored (w := w) (b := w.heap.size + 1) (by exact hr0) (by repeat (first | exact hb0 | apply pw_below_drewN | apply below_drew1)) (Nat.le_succ _) _ _).2⟩
set_option maxHeartbeats 8000000 in
set_option maxRecDepth 100000 in
theorem entry_no1 (a0 : Int) (n : ByteArray) (i kd rr : Int) (w : World) (h0 : goodIno_ a0 = true) (h1 : names_Right.f n = some rr) (hr : rr ≠ 0) : Calls Try.prog 36 #[.int .i64 a0, .agg #[.string n, .int .i64 i, .int .i64 kd]] w fun e w' => e = .returned (.tuple #[.agg #[.string ⟨#[]⟩, .string ⟨#[]⟩, .bool false], .int .i64 22]) ∧ Below w.heap.size w w' := by
  have hu59 := Try.underlying59
  have hu32 := Try.underlying32
  have G0 := Aside0.mk (goodIno_f a0 _ h0)
  have G1 := Aside0.mk h1
  have hz : (rr != 0) = true := bne_iff_ne.2 hr
  have hz2 : ¬ rr = 0 := hr
  go_enter Try.func36, Try.ntmps36
  go_wp2_with (first
    | (go_at_call 56; (with_reducible refine (node_goodIno.calls a0 true _ G0.out).mono ?_); rintro e w' ⟨rfl, ⟨nd0, rfl⟩⟩)
    | (go_at_call 31; (with_reducible refine (names_Right.calls n rr _ G1.out).mono ?_); rintro e w1 ⟨rfl, hb1d⟩
       have hb1 := (pw_below_drewN (Below.refl ((w.alloc (.cells #[.string n, .int .i64 i, .int .i64 kd] 59)).alloc (.cells #[.string ⟨#[]⟩, .string ⟨#[]⟩, .bool false] 32)).heap.size ((w.alloc (.cells #[.string n, .int .i64 i, .int .i64 kd] 59)).alloc (.cells #[.string ⟨#[]⟩, .string ⟨#[]⟩, .bool false] 32))) nd0).trans hb1d
       clear hb1d
       have HP1 := Aside0.mk (show Blk w1 w.heap.size #[.string n, .int .i64 i, .int .i64 kd] 59 from Blk.below (w := ((w.alloc (.cells #[.string n, .int .i64 i, .int .i64 kd] 59)).alloc (.cells #[.string ⟨#[]⟩, .string ⟨#[]⟩, .bool false] 32))) ((Blk.fresh w #[.string n, .int .i64 i, .int .i64 kd] 59).alloc _) hb1 (by simp; omega))
       have HR1 := Aside0.mk (show Blk w1 (w.heap.size + 1) #[.string ⟨#[]⟩, .string ⟨#[]⟩, .bool false] 32 by
         refine Blk.below (w := ((w.alloc (.cells #[.string n, .int .i64 i, .int .i64 kd] 59)).alloc (.cells #[.string ⟨#[]⟩, .string ⟨#[]⟩, .bool false] 32))) ?_ hb1 (by simp)
         simpa using Blk.fresh (w.alloc (.cells #[.string n, .int .i64 i, .int .i64 kd] 59)) #[.string ⟨#[]⟩, .string ⟨#[]⟩, .bool false] 32)
       have HB1 := Aside0.mk ((below_alloc (below_alloc (Below.refl w.heap.size w) (.cells #[.string n, .int .i64 i, .int .i64 kd] 59)) (.cells #[.string ⟨#[]⟩, .string ⟨#[]⟩, .bool false] 32)).trans (hb1.mono (by simp; omega)))
       have p0 := HP1.out.cell 0 _ rfl; have p1 := HP1.out.cell 1 _ rfl; have p2 := HP1.out.cell 2 _ rfl
       have c0 := HR1.out.cell 0 _ rfl; have c1 := HR1.out.cell 1 _ rfl; have c2 := HR1.out.cell 2 _ rfl
       have f0 := HR1.out.frozen 0; have f1 := HR1.out.frozen 1; have f2 := HR1.out.frozen 2
       clear hb1))
  refine bodyPost_ret (results_ct rfl _ _ (w.heap.size + 1) 32 #[.string ⟨#[]⟩, .string ⟨#[]⟩, .bool false] (0, 0) _ rfl (stored (w := w) (b := w.heap.size + 1) (by exact HR1.out) (by repeat (first | exact HB1.out | apply pw_below_drewN | apply below_drew1)) (Nat.le_succ _) _ _).1 Try.underlying32 rfl (by kernel_rfl)) rfl ?_
  exact ⟨rfl, (stored (w := w) (b := w.heap.size + 1) (by exact HR1.out) (by repeat (first | exact HB1.out | apply pw_below_drewN | apply below_drew1)) (Nat.le_succ _) _ _).2⟩
set_option maxHeartbeats 8000000 in
set_option maxRecDepth 100000 in
theorem entry_no2 (a0 : Int) (n : ByteArray) (i kd rr : Int) (w : World) (h0 : goodIno_ a0 = true) (h1 : names_Right.f n = some rr) (hr : rr = 0) (h2 : goodIno_ i = false) : Calls Try.prog 36 #[.int .i64 a0, .agg #[.string n, .int .i64 i, .int .i64 kd]] w fun e w' => e = .returned (.tuple #[.agg #[.string ⟨#[]⟩, .string ⟨#[]⟩, .bool false], .int .i64 22]) ∧ Below w.heap.size w w' := by
  have hu59 := Try.underlying59
  have hu32 := Try.underlying32
  have G0 := Aside0.mk (goodIno_f a0 _ h0)
  have G1 := Aside0.mk h1
  subst hr
  have G2 := Aside0.mk (goodIno_f i _ h2)
  go_enter Try.func36, Try.ntmps36
  go_wp2_with (first
    | (go_at_call 56; (with_reducible refine (node_goodIno.calls a0 true _ G0.out).mono ?_); rintro e w' ⟨rfl, ⟨nd0, rfl⟩⟩)
    | (go_at_call 31; (with_reducible refine (names_Right.calls n 0 _ G1.out).mono ?_); rintro e w1 ⟨rfl, hb1d⟩
       have hb1 := (pw_below_drewN (Below.refl ((w.alloc (.cells #[.string n, .int .i64 i, .int .i64 kd] 59)).alloc (.cells #[.string ⟨#[]⟩, .string ⟨#[]⟩, .bool false] 32)).heap.size ((w.alloc (.cells #[.string n, .int .i64 i, .int .i64 kd] 59)).alloc (.cells #[.string ⟨#[]⟩, .string ⟨#[]⟩, .bool false] 32))) nd0).trans hb1d
       clear hb1d
       have HP1 := Aside0.mk (show Blk w1 w.heap.size #[.string n, .int .i64 i, .int .i64 kd] 59 from Blk.below (w := ((w.alloc (.cells #[.string n, .int .i64 i, .int .i64 kd] 59)).alloc (.cells #[.string ⟨#[]⟩, .string ⟨#[]⟩, .bool false] 32))) ((Blk.fresh w #[.string n, .int .i64 i, .int .i64 kd] 59).alloc _) hb1 (by simp; omega))
       have HR1 := Aside0.mk (show Blk w1 (w.heap.size + 1) #[.string ⟨#[]⟩, .string ⟨#[]⟩, .bool false] 32 by
         refine Blk.below (w := ((w.alloc (.cells #[.string n, .int .i64 i, .int .i64 kd] 59)).alloc (.cells #[.string ⟨#[]⟩, .string ⟨#[]⟩, .bool false] 32))) ?_ hb1 (by simp)
         simpa using Blk.fresh (w.alloc (.cells #[.string n, .int .i64 i, .int .i64 kd] 59)) #[.string ⟨#[]⟩, .string ⟨#[]⟩, .bool false] 32)
       have HB1 := Aside0.mk ((below_alloc (below_alloc (Below.refl w.heap.size w) (.cells #[.string n, .int .i64 i, .int .i64 kd] 59)) (.cells #[.string ⟨#[]⟩, .string ⟨#[]⟩, .bool false] 32)).trans (hb1.mono (by simp; omega)))
       have p0 := HP1.out.cell 0 _ rfl; have p1 := HP1.out.cell 1 _ rfl; have p2 := HP1.out.cell 2 _ rfl
       have c0 := HR1.out.cell 0 _ rfl; have c1 := HR1.out.cell 1 _ rfl; have c2 := HR1.out.cell 2 _ rfl
       have f0 := HR1.out.frozen 0; have f1 := HR1.out.frozen 1; have f2 := HR1.out.frozen 2
       clear hb1)
    | (go_at_call 56; (with_reducible refine (node_goodIno.calls i false _ G2.out).mono ?_); rintro e w' ⟨rfl, ⟨nd2, rfl⟩⟩))
  refine bodyPost_ret (results_ct rfl _ _ (w.heap.size + 1) 32 #[.string ⟨#[]⟩, .string ⟨#[]⟩, .bool false] (0, 0) _ rfl (stored (w := w) (b := w.heap.size + 1) (by exact HR1.out) (by repeat (first | exact HB1.out | apply pw_below_drewN | apply below_drew1)) (Nat.le_succ _) _ _).1 Try.underlying32 rfl (by kernel_rfl)) rfl ?_
  exact ⟨rfl, (stored (w := w) (b := w.heap.size + 1) (by exact HR1.out) (by repeat (first | exact HB1.out | apply pw_below_drewN | apply below_drew1)) (Nat.le_succ _) _ _).2⟩
set_option maxHeartbeats 8000000 in
set_option maxRecDepth 100000 in
theorem entry_no3 (a0 : Int) (n : ByteArray) (i kd rr : Int) (w : World) (h0 : goodIno_ a0 = true) (h1 : names_Right.f n = some rr) (hr : rr = 0) (h2 : goodIno_ i = true) (h3 : goodKind_ kd = false) : Calls Try.prog 36 #[.int .i64 a0, .agg #[.string n, .int .i64 i, .int .i64 kd]] w fun e w' => e = .returned (.tuple #[.agg #[.string ⟨#[]⟩, .string ⟨#[]⟩, .bool false], .int .i64 22]) ∧ Below w.heap.size w w' := by
  have hu59 := Try.underlying59
  have hu32 := Try.underlying32
  have G0 := Aside0.mk (goodIno_f a0 _ h0)
  have G1 := Aside0.mk h1
  subst hr
  have G2 := Aside0.mk (goodIno_f i _ h2)
  have G3 := Aside0.mk (goodKind_f kd _ h3)
  go_enter Try.func36, Try.ntmps36
  go_wp2_with (first
    | (go_at_call 56; (with_reducible refine (node_goodIno.calls a0 true _ G0.out).mono ?_); rintro e w' ⟨rfl, ⟨nd0, rfl⟩⟩)
    | (go_at_call 31; (with_reducible refine (names_Right.calls n 0 _ G1.out).mono ?_); rintro e w1 ⟨rfl, hb1d⟩
       have hb1 := (pw_below_drewN (Below.refl ((w.alloc (.cells #[.string n, .int .i64 i, .int .i64 kd] 59)).alloc (.cells #[.string ⟨#[]⟩, .string ⟨#[]⟩, .bool false] 32)).heap.size ((w.alloc (.cells #[.string n, .int .i64 i, .int .i64 kd] 59)).alloc (.cells #[.string ⟨#[]⟩, .string ⟨#[]⟩, .bool false] 32))) nd0).trans hb1d
       clear hb1d
       have HP1 := Aside0.mk (show Blk w1 w.heap.size #[.string n, .int .i64 i, .int .i64 kd] 59 from Blk.below (w := ((w.alloc (.cells #[.string n, .int .i64 i, .int .i64 kd] 59)).alloc (.cells #[.string ⟨#[]⟩, .string ⟨#[]⟩, .bool false] 32))) ((Blk.fresh w #[.string n, .int .i64 i, .int .i64 kd] 59).alloc _) hb1 (by simp; omega))
       have HR1 := Aside0.mk (show Blk w1 (w.heap.size + 1) #[.string ⟨#[]⟩, .string ⟨#[]⟩, .bool false] 32 by
         refine Blk.below (w := ((w.alloc (.cells #[.string n, .int .i64 i, .int .i64 kd] 59)).alloc (.cells #[.string ⟨#[]⟩, .string ⟨#[]⟩, .bool false] 32))) ?_ hb1 (by simp)
         simpa using Blk.fresh (w.alloc (.cells #[.string n, .int .i64 i, .int .i64 kd] 59)) #[.string ⟨#[]⟩, .string ⟨#[]⟩, .bool false] 32)
       have HB1 := Aside0.mk ((below_alloc (below_alloc (Below.refl w.heap.size w) (.cells #[.string n, .int .i64 i, .int .i64 kd] 59)) (.cells #[.string ⟨#[]⟩, .string ⟨#[]⟩, .bool false] 32)).trans (hb1.mono (by simp; omega)))
       have p0 := HP1.out.cell 0 _ rfl; have p1 := HP1.out.cell 1 _ rfl; have p2 := HP1.out.cell 2 _ rfl
       have c0 := HR1.out.cell 0 _ rfl; have c1 := HR1.out.cell 1 _ rfl; have c2 := HR1.out.cell 2 _ rfl
       have f0 := HR1.out.frozen 0; have f1 := HR1.out.frozen 1; have f2 := HR1.out.frozen 2
       clear hb1)
    | (go_at_call 56; (with_reducible refine (node_goodIno.calls i true _ G2.out).mono ?_); rintro e w' ⟨rfl, ⟨nd2, rfl⟩⟩)
    | (go_at_call 64; (with_reducible refine (node_goodKind.calls kd false _ G3.out).mono ?_); rintro e w' ⟨rfl, ⟨nd3, rfl⟩⟩))
  refine bodyPost_ret (results_ct rfl _ _ (w.heap.size + 1) 32 #[.string ⟨#[]⟩, .string ⟨#[]⟩, .bool false] (0, 0) _ rfl (stored (w := w) (b := w.heap.size + 1) (by exact HR1.out) (by repeat (first | exact HB1.out | apply pw_below_drewN | apply below_drew1)) (Nat.le_succ _) _ _).1 Try.underlying32 rfl (by kernel_rfl)) rfl ?_
  exact ⟨rfl, (stored (w := w) (b := w.heap.size + 1) (by exact HR1.out) (by repeat (first | exact HB1.out | apply pw_below_drewN | apply below_drew1)) (Nat.le_succ _) _ _).2⟩
theorem good_b {a : Int} (h : goodIno_ a = true) : 1 ≤ a ∧ a ≤ 4096 := by unfold goodIno_ at h; simp at h; omega
theorem goodk_b {a : Int} (h : goodKind_ a = true) : 1 ≤ a ∧ a ≤ 3 := by unfold goodKind_ at h; simp at h; omega
set_option maxHeartbeats 8000000 in
set_option maxRecDepth 100000 in
theorem entry_made (a0 : Int) (n : ByteArray) (i kd rr : Int) (k : ByteArray) (w : World) (h0 : goodIno_ a0 = true) (h1 : names_Right.f n = some rr) (hr : rr = 0) (h2 : goodIno_ i = true) (h3 : goodKind_ kd = true) (hk : node_EntryKey.f a0 n = some k) : Calls Try.prog 36 #[.int .i64 a0, .agg #[.string n, .int .i64 i, .int .i64 kd]] w fun e w' => e = .returned (.tuple #[.agg #[.string k, .string (strOfNums (leBytes i 2 ++ leBytes kd 1)), .bool false], .int .i64 0]) ∧ Below w.heap.size w w' := by
  obtain ⟨b0, b1⟩ := good_b h2
  obtain ⟨b2, b3⟩ := goodk_b h3
  have hu59 := Try.underlying59
  have hu32 := Try.underlying32
  have G0 := Aside0.mk (goodIno_f a0 _ h0)
  have G1 := Aside0.mk h1
  subst hr
  have G2 := Aside0.mk (goodIno_f i _ h2)
  have G3 := Aside0.mk (goodKind_f kd _ h3)
  have HK := Aside0.mk hk
  have HPi := Aside0.mk (put_f i (by omega) (by omega)).2.1
  have HPk := Aside0.mk (put_f kd (by omega) (by omega)).1
  have HL0 := Aside0.mk (show ([] : List Int).length ≤ 1000000 by simp)
  have HL1 := Aside0.mk (show ([] ++ leBytes i 2 : List Int).length ≤ 1000000 by simp [leBytes])
  have HMi := Aside0.mk (show (leBytes i 2).length ≤ 8 by simp [leBytes])
  have HMk := Aside0.mk (show (leBytes kd 1).length ≤ 8 by simp [leBytes])
  clear h0 h1 h2 h3 hk b0 b1 b2 b3
  go_enter Try.func36, Try.ntmps36
  go_wp2_with (first
    | (go_at_call 56; (with_reducible refine (node_goodIno.calls a0 true _ G0.out).mono ?_); rintro e w' ⟨rfl, ⟨nd0, rfl⟩⟩)
    | (go_at_call 31; (with_reducible refine (names_Right.calls n 0 _ G1.out).mono ?_); rintro e w1 ⟨rfl, hb1d⟩
       have hb1 := (pw_below_drewN (Below.refl ((w.alloc (.cells #[.string n, .int .i64 i, .int .i64 kd] 59)).alloc (.cells #[.string ⟨#[]⟩, .string ⟨#[]⟩, .bool false] 32)).heap.size ((w.alloc (.cells #[.string n, .int .i64 i, .int .i64 kd] 59)).alloc (.cells #[.string ⟨#[]⟩, .string ⟨#[]⟩, .bool false] 32))) nd0).trans hb1d
       clear hb1d
       have HP1 := Aside0.mk (show Blk w1 w.heap.size #[.string n, .int .i64 i, .int .i64 kd] 59 from Blk.below (w := ((w.alloc (.cells #[.string n, .int .i64 i, .int .i64 kd] 59)).alloc (.cells #[.string ⟨#[]⟩, .string ⟨#[]⟩, .bool false] 32))) ((Blk.fresh w #[.string n, .int .i64 i, .int .i64 kd] 59).alloc _) hb1 (by simp; omega))
       have HR1 := Aside0.mk (show Blk w1 (w.heap.size + 1) #[.string ⟨#[]⟩, .string ⟨#[]⟩, .bool false] 32 by
         refine Blk.below (w := ((w.alloc (.cells #[.string n, .int .i64 i, .int .i64 kd] 59)).alloc (.cells #[.string ⟨#[]⟩, .string ⟨#[]⟩, .bool false] 32))) ?_ hb1 (by simp)
         simpa using Blk.fresh (w.alloc (.cells #[.string n, .int .i64 i, .int .i64 kd] 59)) #[.string ⟨#[]⟩, .string ⟨#[]⟩, .bool false] 32)
       have HB1 := Aside0.mk ((below_alloc (below_alloc (Below.refl w.heap.size w) (.cells #[.string n, .int .i64 i, .int .i64 kd] 59)) (.cells #[.string ⟨#[]⟩, .string ⟨#[]⟩, .bool false] 32)).trans (hb1.mono (by simp; omega)))
       have p0 := HP1.out.cell 0 _ rfl; have p1 := HP1.out.cell 1 _ rfl; have p2 := HP1.out.cell 2 _ rfl
       have c0 := HR1.out.cell 0 _ rfl; have c1 := HR1.out.cell 1 _ rfl; have c2 := HR1.out.cell 2 _ rfl
       have f0 := HR1.out.frozen 0; have f1 := HR1.out.frozen 1; have f2 := HR1.out.frozen 2
       clear hb1)
    | (go_at_call 56; (with_reducible refine (node_goodIno.calls i true _ G2.out).mono ?_); rintro e w' ⟨rfl, ⟨nd2, rfl⟩⟩)
    | (go_at_call 64; (with_reducible refine (node_goodKind.calls kd true _ G3.out).mono ?_); rintro e wv ⟨rfl, ⟨nd3, hwv⟩⟩
       have HRv := Aside0.mk (show Blk wv (w.heap.size + 1) #[.string ⟨#[]⟩, .string ⟨#[]⟩, .bool false] 32 by rw [hwv]; exact HR1.out)
       have HPv := Aside0.mk (show Blk wv w.heap.size #[.string n, .int .i64 i, .int .i64 kd] 59 by rw [hwv]; exact HP1.out)
       have HBv := Aside0.mk (show Below w.heap.size w wv by rw [hwv]; exact pw_below_drewN (pw_below_drewN HB1.out _) _)
       have HGv := Aside0.mk (show w.heap.size + 1 < wv.heap.size from HRv.out.lt)
       have HWv := Aside0.mk (Writer.fresh wv)
       have v1 := (HPv.out.alloc (.cells #[.slice none 0 0] 69)).cell 1 _ rfl
       clear hwv p0 p1 p2 c0 c1 c2 f0 f1 f2)
    | (go_at_call 46; (with_reducible refine (put_calls wv.heap.size wv.heap.size _ [] (leBytes i 2) i 2 _ HWv.out HL0.out HMi.out HPi.out).mono ?_); rintro e w2 ⟨rfl, v2, hw2, hb2, hs2⟩
       have HW2 := Aside0.mk hw2; have HB2 := Aside0.mk (HBv.out.trans (((below_alloc (Below.refl wv.heap.size wv) (.cells #[.slice none 0 0] 69)).trans hb2).mono (by have := HGv.out; omega)))
       have HR2 := Aside0.mk (hs2.blk (HRv.out.alloc _) (by decide) (by have := HGv.out; omega))
       have HP2 := Aside0.mk (hs2.blk (HPv.out.alloc _) (by decide) (by have := HGv.out; omega))
       have p1 := HP2.out.cell 1 _ rfl; have p2 := HP2.out.cell 2 _ rfl
       clear hw2 hb2 hs2)
    | (go_at_call 46; (with_reducible refine (put_calls wv.heap.size wv.heap.size _ _ (leBytes kd 1) kd 1 _ HW2.out HL1.out HMk.out HPk.out).mono ?_); rintro e w3 ⟨rfl, v3, hw3, hb3, hs3⟩
       have HW3 := Aside0.mk hw3; have HB3 := Aside0.mk (HB2.out.trans (hb3.mono (by have := HGv.out; omega)))
       have HR3 := Aside0.mk (hs3.blk HR2.out (by decide) (by have := HGv.out; omega))
       have HP3 := Aside0.mk (hs3.blk HP2.out (by decide) (by have := HGv.out; omega))
       have q0 := HP3.out.cell 0 _ rfl
       have hc3 := hw3.cell
       have hcv := Writer.text (Writer.below hw3 (below_drew (Below.refl _ _)))
       clear hw3 hb3 hs3))
  go_region_law (
         refine goes_ Try.func12 (by kernel_rfl) rfl #[.int .i64 a0, .string n] (by rfl) rfl rfl (by first | rfl | (simp [Act.eval, Act.put]; done) | (simp [Act.eval]; done)) ?_
         refine (node_EntryKey.calls a0 n k _ HK.out).mono ?_
         rintro e w4 ⟨rfl, hb4⟩
         refine ⟨_, rfl, ?_⟩
         have hb34 : Below w3.heap.size w3 w4 := (below_drew (Below.refl w3.heap.size w3)).trans hb4
         have hw4 := HW3.out.below hb34
         have hc4 := hw4.cell
         have hcv4 := hw4.text
         have hr4 := HR3.out.below hb34 HR3.out.lt
         have c0 := hr4.cell 0 _ rfl; have c1 := hr4.cell 1 _ rfl; have c2 := hr4.cell 2 _ rfl
         have f0 := hr4.frozen 0; have f1 := hr4.frozen 1; have f2 := hr4.frozen 2
         have HR4 := Aside0.mk hr4
         have HB4 := Aside0.mk (HB3.out.trans (hb34.mono HB3.out.size))
         clear hw4 hr4 hb4 hb34)
  all_goals
    go_wp2
    obtain ⟨hs, hb⟩ := stored HR4.out HB4.out (Nat.le_succ _) k (strOfNums ([] ++ leBytes i 2 ++ leBytes kd 1))
    refine bodyPost_ret (results_ct rfl _ _ (w.heap.size + 1) 32 #[.string k, .string (strOfNums ([] ++ leBytes i 2 ++ leBytes kd 1)), .bool false] (0, 0) _ rfl hs Try.underlying32 rfl (by kernel_rfl)) rfl ?_
    exact ⟨rfl, hb⟩
theorem node_Entry.calls (a0 : Int) (a1_0 : ByteArray) (a1_1 : Int) (a1_2 : Int) (r1 : ByteArray) (r2 : ByteArray) (r3 : Bool) (r4 : Int) (w : World) (h : node_Entry.f a0 a1_0 a1_1 a1_2 = some (r1, r2, r3, r4)) :
    Calls Try.prog 36 #[.int .i64 a0, .agg #[.string a1_0, .int .i64 a1_1, .int .i64 a1_2]] w fun e w' => e = .returned (.tuple #[.agg #[.string r1, .string r2, .bool r3], .int .i64 r4]) ∧ Below w.heap.size w w' := by
  unfold node_Entry.f at h
  obtain ⟨e, he, h⟩ := Option.bind_eq_some_iff.mp h
  cases h0 : goodIno_ a0 with
  | false =>
    simp [h0] at h
    obtain ⟨rfl, rfl, rfl, rfl⟩ := h
    exact entry_no0 a0 a1_0 a1_1 a1_2 0 w h0
  | true =>
    by_cases hr : e = 0
    · cases h2 : goodIno_ a1_1 with
      | false =>
        simp [h0, hr, h2] at h
        obtain ⟨rfl, rfl, rfl, rfl⟩ := h
        exact entry_no2 a0 a1_0 a1_1 a1_2 e w h0 he hr h2
      | true =>
        cases h3 : goodKind_ a1_2 with
        | false =>
          simp [h0, hr, h2, h3] at h
          obtain ⟨rfl, rfl, rfl, rfl⟩ := h
          exact entry_no3 a0 a1_0 a1_1 a1_2 e w h0 he hr h2 h3
        | true =>
          rw [if_pos (by simp [h0, hr, h2, h3])] at h
          obtain ⟨k, hk, h⟩ := Option.bind_eq_some_iff.mp h
          cases h
          exact entry_made a0 a1_0 a1_1 a1_2 e _ w h0 he hr h2 h3 hk
    · simp [h0, hr] at h
      obtain ⟨rfl, rfl, rfl, rfl⟩ := h
      exact entry_no1 a0 a1_0 a1_1 a1_2 e w h0 he hr
end Go.Proofs.Ytakchpeohmkpkaa.Q

namespace Go.Proofs.Ytakchpeohmkpkaa.Q
open Go.RowKit Go.Proofs.YtakchpeohmkpkaaW.PrintWords Go.Proofs.YtakchpeohmkpkaaW.PrintLast Go.Proofs.YtakchpeohmkpkaaW.PrintMore Go.Proofs.Ytakchpeohmkpkaa.Sep
set_option linter.unusedVariables false
set_option linter.unusedSimpArgs false
def goodKindB (a : Int) : Bool := decide (1 ≤ a) && decide (a ≤ 3)
theorem goodk_calls (a : Int) (w : World) : Calls Try.prog 64 #[.int .i64 a] w fun e w' => e = .returned (.bool (goodKindB a)) ∧ Drawn0 w w' := by
  refine node_goodKind.calls a _ w ?_
  unfold node_goodKind.f goodKindB
  by_cases h : a ≥ 1 <;> simp [h] <;> omega
set_option maxHeartbeats 8000000 in
set_option maxRecDepth 100000 in
theorem parseEntry_ok (k v : ByteArray) (g : Bool) (kd dir bl : Int) (nm : ByteArray) (w : World) (hk : node_Kind.f k = some (kd, dir, nm, bl)) (hv : v.size ≤ 281474976710656) (f0 : g = false) (f1 : (kd == 2) = true) (f2 : (kd != 2) = false) (f3 : ((((pos (bytesOf v) (pos (bytesOf v) 0 2) 1) : Nat) : Int) == ((bytesOf v).length : Int)) = true) (f4 : goodInoB (leVal (nxt (bytesOf v) 0 2)) = true) (f5 : goodKindB (leVal (nxt (bytesOf v) (pos (bytesOf v) 0 2) 1)) = true) :
    Calls Try.prog 42 #[.agg #[.string k, .string v, .bool g]] w fun e w' => e = .returned (.tuple #[.int .i64 dir, .agg #[.string nm, .int .i64 (leVal (nxt (bytesOf v) 0 2)), .int .i64 (leVal (nxt (bytesOf v) (pos (bytesOf v) 0 2) 1))], .bool true]) ∧ Below w.heap.size w w' := by
  try subst f0
  have HK := Aside0.mk hk
  have hby : Aside0 (Bytes (bytesOf v)) := Aside0.mk (bytes_of v)
  have HA := Aside0.mk (Holds.start w)
  clear hk
  go_enter Try.func42, Try.ntmps42
  go_wp2_with (first
    | ((with_reducible apply load1_); (case HH => first | exact HA.out | exact HA.out.any rfl rfl rfl rfl); (case ht => rfl); (case hx => rfl); (case hw => rfl); (case hm => repeat (first | exact List.Mem.head _ | refine List.Mem.tail _ ?_)); (case hv => exact rfl); simp only [Act.put, List.setIfInBounds_toArray, List.set_cons_zero, List.set_cons_succ])
    | ((with_reducible apply loadN_ (n := 3)); (case HH => first | exact HA.out | exact HA.out.any rfl rfl rfl rfl); (case ht => rfl); (case hn => decide +kernel); (case hx => rfl); (case hw => rfl); (case hm => repeat (first | exact List.Mem.head _ | refine List.Mem.tail _ ?_)); (case hv => first | (simp only [List.drop_succ_cons, List.drop_zero, List.take_succ_cons, List.take_zero]; rfl) | rfl); (case hl => rfl); simp only [Act.put, List.setIfInBounds_toArray, List.set_cons_zero, List.set_cons_succ])
    | ((with_reducible apply box_); (case HH => first | exact HA.out | exact HA.out.any rfl rfl rfl rfl); (case hw => rfl); (case hev => conv => lhs; whnf); (case hy => rfl); intro bx w1 HB_; simp only [Act.put, List.setIfInBounds_toArray, List.set_cons_zero, List.set_cons_succ]; clear HA; have HA := Aside0.mk HB_; clear HB_)
    | ((with_reducible apply alloc_ (z := .agg #[.string ⟨#[]⟩, .int .i64 0, .int .i64 0])); (case HH => first | exact HA.out | exact HA.out.any rfl rfl rfl rfl); (case hw => rfl); (case hz => kernel_rfl); (case hx => rfl); intro bx w1 HB_; simp only [Act.put, List.setIfInBounds_toArray, List.set_cons_zero, List.set_cons_succ]; clear HA; have HA := Aside0.mk HB_; clear HB_)
    | ((with_reducible apply store_); (case HH => first | exact HA.out | exact HA.out.any rfl rfl rfl rfl); (case hw => rfl); (case hx => rfl); (case hev => conv => lhs; whnf); (case hy => rfl); (case hm => repeat (first | exact Holds.At.here | apply Holds.At.there)); (case hl => rfl); (case hn => kernel_rfl); (case h1 => simp [Value.oneCell']); (case hi => simp); intro w1 HB_; simp only [splice, List.set_cons_zero, List.set_cons_succ] at HB_; clear HA; have HA := Aside0.mk HB_; clear HB_)
    | (go_at_call 30; (with_reducible refine (node_Kind.calls k kd dir nm bl _ HK.out).mono ?_); rintro e w1 ⟨rfl, hb_⟩; have HB_ := HA.out.call1 hb_ rfl rfl rfl rfl; clear hb_; clear HA; have HA := Aside0.mk HB_; clear HB_)
    | ((with_reducible apply conv_); (case HH => first | exact HA.out | exact HA.out.any rfl rfl rfl rfl); (case hw => rfl); (case hev => conv => lhs; whnf); (case hv => rfl); (case hs => exact Try.underlying9); (case hd => exact Try.underlying34); (case he => exact Try.underlying5); intro bs w1 obs capbs HB_ HSbs hcapbs; have HSbs := Aside0.mk HSbs; have hcapbs := Aside0.mk hcapbs; simp only [Act.put, List.setIfInBounds_toArray, List.set_cons_zero, List.set_cons_succ]; clear HA; have HA := Aside0.mk HB_; clear HB_)
    | (go_at_call 50; (with_reducible apply Calls.mono); (case h => exact number_at (by first | exact HA.out | exact HA.out.any rfl rfl rfl rfl) (by repeat (first | exact Holds.At.here | apply Holds.At.there)) (by rw [bytesOf_length]; exact hv) hcapbs.out (by first | exact pos_le _ _ _ | exact Nat.zero_le _ | omega) (by decide) (HSbs.out.mono (by simp)) hby.out); rintro e w1 ⟨rfl, HB_⟩; clear HA; have HA := Aside0.mk HB_; clear HB_)
    | (go_at_call 52; (with_reducible apply Calls.mono); (case h => exact done_calls _ _ _ _ (bytesOf v) w _ _ [] (by first | exact HA.out | exact HA.out.any rfl rfl rfl rfl) (by repeat (first | exact List.Mem.head _ | refine List.Mem.tail _ ?_))); rintro e w' ⟨rfl, ⟨nd, rfl⟩⟩)
    | (go_at_call 56; (with_reducible refine (good_calls _ _).mono ?_); rintro e w' ⟨rfl, ⟨nd, rfl⟩⟩)
    | (go_at_call 64; (with_reducible refine (goodk_calls _ _).mono ?_); rintro e w' ⟨rfl, ⟨nd, rfl⟩⟩))
  refine start_H (by first | exact HA.out | exact HA.out.any rfl rfl rfl rfl) (n := 5) [3] #[false, false, false, false, false] (by kernel_rfl) rfl rfl ?_
  refine pure_ (i := 0) (N := some 55) (v := ?_) (a' := ?_) #[true, false, false, false, false] rfl rfl (by kernel_rfl) (fun _ _ _ h => h) (Or.inl ⟨by rfl, ?_⟩) ?_ ?_
  rotate_left
  · intro w'
    go_simp
    with_reducible rfl
  rotate_left
  · simp only [Act.put, List.setIfInBounds_toArray, List.set_cons_zero, List.set_cons_succ, i64_w, i32_w]
    rfl
  refine pure_ (i := 2) (N := some 2) (v := ?_) (a' := ?_) #[true, false, true, false, false] rfl rfl (by kernel_rfl) (fun _ _ _ h => h) (Or.inl ⟨by rfl, ?_⟩) ?_ ?_
  rotate_left
  · intro w'
    go_simp
    with_reducible rfl
  rotate_left
  · simp only [Act.put, List.setIfInBounds_toArray, List.set_cons_zero, List.set_cons_succ, i64_w, i32_w]
    rfl
  apply takeN_ (by first | exact HA.out | exact HA.out.any rfl rfl rfl rfl | exact (HA.out.any rfl rfl rfl rfl).tail | exact (HA.out.any rfl rfl rfl rfl).tail.tail | exact (HA.out.any rfl rfl rfl rfl).tail.tail.tail) (i := 1) (l' := #[true, true, true, false, false]) (N := some 56) (n := 3)
  case hi => rfl
  case hN => rfl
  case hc => kernel_rfl
  case hop => rfl
  case hx => rfl
  case hw => rfl
  case hm => repeat (first | exact List.Mem.head _ | refine List.Mem.tail _ ?_)
  case ht => rfl
  case hn => decide +kernel
  case hv => first | (simp only [List.drop_succ_cons, List.drop_zero, List.take_succ_cons, List.take_zero]; rfl) | rfl
  case hl => rfl
  case hQ => exact fun _ _ _ h => h
  case ha => (simp only [Act.put, List.setIfInBounds_toArray, List.set_cons_zero, List.set_cons_succ, i64_w, i32_w]; rfl)
  refine last_ (i := 3) (N := none) #[true, true, true, true, false] rfl rfl (by kernel_rfl) (by decide) (fun K hK => ?_)
  apply store_e; (case HH => first | exact HA.out | exact HA.out.any rfl rfl rfl rfl); (case hop => rfl); (case hN => rfl); (case hw => rfl); (case hx => rfl); (case hev => conv => lhs; whnf); (case hy => rfl); (case hm => repeat (first | exact Holds.At.here | apply Holds.At.there)); (case hl => rfl); (case hn => kernel_rfl); (case h1 => simp [Value.oneCell']); (case hi => simp); intro w1 HB_; simp only [splice, List.set_cons_zero, List.set_cons_succ] at HB_; clear HA; have HA := Aside0.mk HB_; clear HB_
  refine hK.out _ _ ?_
  clear hK K
  refine pure_ (i := 4) (N := some 4) (v := ?_) (a' := ?_) #[true, true, true, true, true] rfl rfl (by kernel_rfl) (fun _ _ _ h => h) (Or.inl ⟨by rfl, ?_⟩) ?_ ?_
  rotate_left
  · intro w'
    go_simp
    with_reducible rfl
  rotate_left
  · simp only [Act.put, List.setIfInBounds_toArray, List.set_cons_zero, List.set_cons_succ, i64_w, i32_w]
    rfl
  refine done_ (by kernel_rfl) ?_
  go_wp2
  (apply end_list [.tmp 2, .cell 3 59, .tmp 4]; (case hres => rfl); (case hd => rfl); (case hvs => apply Vals.tmp; apply vcell (by first | exact HA.out | exact HA.out.any rfl rfl rfl rfl); (case hp => rfl); (case hm => repeat (first | exact List.Mem.head _ | refine List.Mem.tail _ ?_)); (case hag => rfl); (case hi => kernel_rfl); (case hvs => apply Vals.tmp; exact .nil)); (case hl => simp); (case hR => exact ⟨rfl, HA.out.below⟩))
set_option maxHeartbeats 8000000 in
set_option maxRecDepth 100000 in
theorem parseEntry_g (k v : ByteArray) (g : Bool) (kd dir bl : Int) (nm : ByteArray) (w : World) (hk : node_Kind.f k = some (kd, dir, nm, bl)) (hv : v.size ≤ 281474976710656) (f0 : g = true) :
    Calls Try.prog 42 #[.agg #[.string k, .string v, .bool g]] w fun e w' => e = .returned (.tuple #[.int .i64 0, .agg #[.string ⟨#[]⟩, .int .i64 0, .int .i64 0], .bool false]) ∧ Below w.heap.size w w' := by
  try subst f0
  have HK := Aside0.mk hk
  have hby : Aside0 (Bytes (bytesOf v)) := Aside0.mk (bytes_of v)
  have HA := Aside0.mk (Holds.start w)
  clear hk
  go_enter Try.func42, Try.ntmps42
  go_wp2_with (first
    | ((with_reducible apply load1_); (case HH => first | exact HA.out | exact HA.out.any rfl rfl rfl rfl); (case ht => rfl); (case hx => rfl); (case hw => rfl); (case hm => repeat (first | exact List.Mem.head _ | refine List.Mem.tail _ ?_)); (case hv => exact rfl); simp only [Act.put, List.setIfInBounds_toArray, List.set_cons_zero, List.set_cons_succ])
    | ((with_reducible apply loadN_ (n := 3)); (case HH => first | exact HA.out | exact HA.out.any rfl rfl rfl rfl); (case ht => rfl); (case hn => decide +kernel); (case hx => rfl); (case hw => rfl); (case hm => repeat (first | exact List.Mem.head _ | refine List.Mem.tail _ ?_)); (case hv => first | (simp only [List.drop_succ_cons, List.drop_zero, List.take_succ_cons, List.take_zero]; rfl) | rfl); (case hl => rfl); simp only [Act.put, List.setIfInBounds_toArray, List.set_cons_zero, List.set_cons_succ])
    | ((with_reducible apply box_); (case HH => first | exact HA.out | exact HA.out.any rfl rfl rfl rfl); (case hw => rfl); (case hev => conv => lhs; whnf); (case hy => rfl); intro bx w1 HB_; simp only [Act.put, List.setIfInBounds_toArray, List.set_cons_zero, List.set_cons_succ]; clear HA; have HA := Aside0.mk HB_; clear HB_)
    | ((with_reducible apply alloc_ (z := .agg #[.string ⟨#[]⟩, .int .i64 0, .int .i64 0])); (case HH => first | exact HA.out | exact HA.out.any rfl rfl rfl rfl); (case hw => rfl); (case hz => kernel_rfl); (case hx => rfl); intro bx w1 HB_; simp only [Act.put, List.setIfInBounds_toArray, List.set_cons_zero, List.set_cons_succ]; clear HA; have HA := Aside0.mk HB_; clear HB_)
    | ((with_reducible apply store_); (case HH => first | exact HA.out | exact HA.out.any rfl rfl rfl rfl); (case hw => rfl); (case hx => rfl); (case hev => conv => lhs; whnf); (case hy => rfl); (case hm => repeat (first | exact Holds.At.here | apply Holds.At.there)); (case hl => rfl); (case hn => kernel_rfl); (case h1 => simp [Value.oneCell']); (case hi => simp); intro w1 HB_; simp only [splice, List.set_cons_zero, List.set_cons_succ] at HB_; clear HA; have HA := Aside0.mk HB_; clear HB_)
    | (go_at_call 30; (with_reducible refine (node_Kind.calls k kd dir nm bl _ HK.out).mono ?_); rintro e w1 ⟨rfl, hb_⟩; have HB_ := HA.out.call1 hb_ rfl rfl rfl rfl; clear hb_; clear HA; have HA := Aside0.mk HB_; clear HB_)
    | ((with_reducible apply conv_); (case HH => first | exact HA.out | exact HA.out.any rfl rfl rfl rfl); (case hw => rfl); (case hev => conv => lhs; whnf); (case hv => rfl); (case hs => exact Try.underlying9); (case hd => exact Try.underlying34); (case he => exact Try.underlying5); intro bs w1 obs capbs HB_ HSbs hcapbs; have HSbs := Aside0.mk HSbs; have hcapbs := Aside0.mk hcapbs; simp only [Act.put, List.setIfInBounds_toArray, List.set_cons_zero, List.set_cons_succ]; clear HA; have HA := Aside0.mk HB_; clear HB_)
    | (go_at_call 50; (with_reducible apply Calls.mono); (case h => exact number_at (by first | exact HA.out | exact HA.out.any rfl rfl rfl rfl) (by repeat (first | exact Holds.At.here | apply Holds.At.there)) (by rw [bytesOf_length]; exact hv) hcapbs.out (by first | exact pos_le _ _ _ | exact Nat.zero_le _ | omega) (by decide) (HSbs.out.mono (by simp)) hby.out); rintro e w1 ⟨rfl, HB_⟩; clear HA; have HA := Aside0.mk HB_; clear HB_)
    | (go_at_call 52; (with_reducible apply Calls.mono); (case h => exact done_calls _ _ _ _ (bytesOf v) w _ _ [] (by first | exact HA.out | exact HA.out.any rfl rfl rfl rfl) (by repeat (first | exact List.Mem.head _ | refine List.Mem.tail _ ?_))); rintro e w' ⟨rfl, ⟨nd, rfl⟩⟩)
    | (go_at_call 56; (with_reducible refine (good_calls _ _).mono ?_); rintro e w' ⟨rfl, ⟨nd, rfl⟩⟩)
    | (go_at_call 64; (with_reducible refine (goodk_calls _ _).mono ?_); rintro e w' ⟨rfl, ⟨nd, rfl⟩⟩))
  (apply end_list [.tmp 2, .cell 3 59, .tmp 4]; (case hres => rfl); (case hd => rfl); (case hvs => apply Vals.tmp; apply vcell (by first | exact HA.out | exact HA.out.any rfl rfl rfl rfl); (case hp => rfl); (case hm => repeat (first | exact List.Mem.head _ | refine List.Mem.tail _ ?_)); (case hag => rfl); (case hi => kernel_rfl); (case hvs => apply Vals.tmp; exact .nil)); (case hl => simp); (case hR => exact ⟨rfl, HA.out.below⟩))
set_option maxHeartbeats 8000000 in
set_option maxRecDepth 100000 in
theorem parseEntry_k (k v : ByteArray) (g : Bool) (kd dir bl : Int) (nm : ByteArray) (w : World) (hk : node_Kind.f k = some (kd, dir, nm, bl)) (hv : v.size ≤ 281474976710656) (f0 : g = false) (f1 : (kd == 2) = false) (f2 : (kd != 2) = true) :
    Calls Try.prog 42 #[.agg #[.string k, .string v, .bool g]] w fun e w' => e = .returned (.tuple #[.int .i64 0, .agg #[.string ⟨#[]⟩, .int .i64 0, .int .i64 0], .bool false]) ∧ Below w.heap.size w w' := by
  try subst f0
  have HK := Aside0.mk hk
  have hby : Aside0 (Bytes (bytesOf v)) := Aside0.mk (bytes_of v)
  have HA := Aside0.mk (Holds.start w)
  clear hk
  go_enter Try.func42, Try.ntmps42
  go_wp2_with (first
    | ((with_reducible apply load1_); (case HH => first | exact HA.out | exact HA.out.any rfl rfl rfl rfl); (case ht => rfl); (case hx => rfl); (case hw => rfl); (case hm => repeat (first | exact List.Mem.head _ | refine List.Mem.tail _ ?_)); (case hv => exact rfl); simp only [Act.put, List.setIfInBounds_toArray, List.set_cons_zero, List.set_cons_succ])
    | ((with_reducible apply loadN_ (n := 3)); (case HH => first | exact HA.out | exact HA.out.any rfl rfl rfl rfl); (case ht => rfl); (case hn => decide +kernel); (case hx => rfl); (case hw => rfl); (case hm => repeat (first | exact List.Mem.head _ | refine List.Mem.tail _ ?_)); (case hv => first | (simp only [List.drop_succ_cons, List.drop_zero, List.take_succ_cons, List.take_zero]; rfl) | rfl); (case hl => rfl); simp only [Act.put, List.setIfInBounds_toArray, List.set_cons_zero, List.set_cons_succ])
    | ((with_reducible apply box_); (case HH => first | exact HA.out | exact HA.out.any rfl rfl rfl rfl); (case hw => rfl); (case hev => conv => lhs; whnf); (case hy => rfl); intro bx w1 HB_; simp only [Act.put, List.setIfInBounds_toArray, List.set_cons_zero, List.set_cons_succ]; clear HA; have HA := Aside0.mk HB_; clear HB_)
    | ((with_reducible apply alloc_ (z := .agg #[.string ⟨#[]⟩, .int .i64 0, .int .i64 0])); (case HH => first | exact HA.out | exact HA.out.any rfl rfl rfl rfl); (case hw => rfl); (case hz => kernel_rfl); (case hx => rfl); intro bx w1 HB_; simp only [Act.put, List.setIfInBounds_toArray, List.set_cons_zero, List.set_cons_succ]; clear HA; have HA := Aside0.mk HB_; clear HB_)
    | ((with_reducible apply store_); (case HH => first | exact HA.out | exact HA.out.any rfl rfl rfl rfl); (case hw => rfl); (case hx => rfl); (case hev => conv => lhs; whnf); (case hy => rfl); (case hm => repeat (first | exact Holds.At.here | apply Holds.At.there)); (case hl => rfl); (case hn => kernel_rfl); (case h1 => simp [Value.oneCell']); (case hi => simp); intro w1 HB_; simp only [splice, List.set_cons_zero, List.set_cons_succ] at HB_; clear HA; have HA := Aside0.mk HB_; clear HB_)
    | (go_at_call 30; (with_reducible refine (node_Kind.calls k kd dir nm bl _ HK.out).mono ?_); rintro e w1 ⟨rfl, hb_⟩; have HB_ := HA.out.call1 hb_ rfl rfl rfl rfl; clear hb_; clear HA; have HA := Aside0.mk HB_; clear HB_)
    | ((with_reducible apply conv_); (case HH => first | exact HA.out | exact HA.out.any rfl rfl rfl rfl); (case hw => rfl); (case hev => conv => lhs; whnf); (case hv => rfl); (case hs => exact Try.underlying9); (case hd => exact Try.underlying34); (case he => exact Try.underlying5); intro bs w1 obs capbs HB_ HSbs hcapbs; have HSbs := Aside0.mk HSbs; have hcapbs := Aside0.mk hcapbs; simp only [Act.put, List.setIfInBounds_toArray, List.set_cons_zero, List.set_cons_succ]; clear HA; have HA := Aside0.mk HB_; clear HB_)
    | (go_at_call 50; (with_reducible apply Calls.mono); (case h => exact number_at (by first | exact HA.out | exact HA.out.any rfl rfl rfl rfl) (by repeat (first | exact Holds.At.here | apply Holds.At.there)) (by rw [bytesOf_length]; exact hv) hcapbs.out (by first | exact pos_le _ _ _ | exact Nat.zero_le _ | omega) (by decide) (HSbs.out.mono (by simp)) hby.out); rintro e w1 ⟨rfl, HB_⟩; clear HA; have HA := Aside0.mk HB_; clear HB_)
    | (go_at_call 52; (with_reducible apply Calls.mono); (case h => exact done_calls _ _ _ _ (bytesOf v) w _ _ [] (by first | exact HA.out | exact HA.out.any rfl rfl rfl rfl) (by repeat (first | exact List.Mem.head _ | refine List.Mem.tail _ ?_))); rintro e w' ⟨rfl, ⟨nd, rfl⟩⟩)
    | (go_at_call 56; (with_reducible refine (good_calls _ _).mono ?_); rintro e w' ⟨rfl, ⟨nd, rfl⟩⟩)
    | (go_at_call 64; (with_reducible refine (goodk_calls _ _).mono ?_); rintro e w' ⟨rfl, ⟨nd, rfl⟩⟩))
  (apply end_list [.tmp 2, .cell 3 59, .tmp 4]; (case hres => rfl); (case hd => rfl); (case hvs => apply Vals.tmp; apply vcell (by first | exact HA.out | exact HA.out.any rfl rfl rfl rfl); (case hp => rfl); (case hm => repeat (first | exact List.Mem.head _ | refine List.Mem.tail _ ?_)); (case hag => rfl); (case hi => kernel_rfl); (case hvs => apply Vals.tmp; exact .nil)); (case hl => simp); (case hR => exact ⟨rfl, HA.out.below⟩))
set_option maxHeartbeats 8000000 in
set_option maxRecDepth 100000 in
theorem parseEntry_d (k v : ByteArray) (g : Bool) (kd dir bl : Int) (nm : ByteArray) (w : World) (hk : node_Kind.f k = some (kd, dir, nm, bl)) (hv : v.size ≤ 281474976710656) (f0 : g = false) (f1 : (kd == 2) = true) (f2 : (kd != 2) = false) (f3 : ((((pos (bytesOf v) (pos (bytesOf v) 0 2) 1) : Nat) : Int) == ((bytesOf v).length : Int)) = false) :
    Calls Try.prog 42 #[.agg #[.string k, .string v, .bool g]] w fun e w' => e = .returned (.tuple #[.int .i64 0, .agg #[.string ⟨#[]⟩, .int .i64 0, .int .i64 0], .bool false]) ∧ Below w.heap.size w w' := by
  try subst f0
  have HK := Aside0.mk hk
  have hby : Aside0 (Bytes (bytesOf v)) := Aside0.mk (bytes_of v)
  have HA := Aside0.mk (Holds.start w)
  clear hk
  go_enter Try.func42, Try.ntmps42
  go_wp2_with (first
    | ((with_reducible apply load1_); (case HH => first | exact HA.out | exact HA.out.any rfl rfl rfl rfl); (case ht => rfl); (case hx => rfl); (case hw => rfl); (case hm => repeat (first | exact List.Mem.head _ | refine List.Mem.tail _ ?_)); (case hv => exact rfl); simp only [Act.put, List.setIfInBounds_toArray, List.set_cons_zero, List.set_cons_succ])
    | ((with_reducible apply loadN_ (n := 3)); (case HH => first | exact HA.out | exact HA.out.any rfl rfl rfl rfl); (case ht => rfl); (case hn => decide +kernel); (case hx => rfl); (case hw => rfl); (case hm => repeat (first | exact List.Mem.head _ | refine List.Mem.tail _ ?_)); (case hv => first | (simp only [List.drop_succ_cons, List.drop_zero, List.take_succ_cons, List.take_zero]; rfl) | rfl); (case hl => rfl); simp only [Act.put, List.setIfInBounds_toArray, List.set_cons_zero, List.set_cons_succ])
    | ((with_reducible apply box_); (case HH => first | exact HA.out | exact HA.out.any rfl rfl rfl rfl); (case hw => rfl); (case hev => conv => lhs; whnf); (case hy => rfl); intro bx w1 HB_; simp only [Act.put, List.setIfInBounds_toArray, List.set_cons_zero, List.set_cons_succ]; clear HA; have HA := Aside0.mk HB_; clear HB_)
    | ((with_reducible apply alloc_ (z := .agg #[.string ⟨#[]⟩, .int .i64 0, .int .i64 0])); (case HH => first | exact HA.out | exact HA.out.any rfl rfl rfl rfl); (case hw => rfl); (case hz => kernel_rfl); (case hx => rfl); intro bx w1 HB_; simp only [Act.put, List.setIfInBounds_toArray, List.set_cons_zero, List.set_cons_succ]; clear HA; have HA := Aside0.mk HB_; clear HB_)
    | ((with_reducible apply store_); (case HH => first | exact HA.out | exact HA.out.any rfl rfl rfl rfl); (case hw => rfl); (case hx => rfl); (case hev => conv => lhs; whnf); (case hy => rfl); (case hm => repeat (first | exact Holds.At.here | apply Holds.At.there)); (case hl => rfl); (case hn => kernel_rfl); (case h1 => simp [Value.oneCell']); (case hi => simp); intro w1 HB_; simp only [splice, List.set_cons_zero, List.set_cons_succ] at HB_; clear HA; have HA := Aside0.mk HB_; clear HB_)
    | (go_at_call 30; (with_reducible refine (node_Kind.calls k kd dir nm bl _ HK.out).mono ?_); rintro e w1 ⟨rfl, hb_⟩; have HB_ := HA.out.call1 hb_ rfl rfl rfl rfl; clear hb_; clear HA; have HA := Aside0.mk HB_; clear HB_)
    | ((with_reducible apply conv_); (case HH => first | exact HA.out | exact HA.out.any rfl rfl rfl rfl); (case hw => rfl); (case hev => conv => lhs; whnf); (case hv => rfl); (case hs => exact Try.underlying9); (case hd => exact Try.underlying34); (case he => exact Try.underlying5); intro bs w1 obs capbs HB_ HSbs hcapbs; have HSbs := Aside0.mk HSbs; have hcapbs := Aside0.mk hcapbs; simp only [Act.put, List.setIfInBounds_toArray, List.set_cons_zero, List.set_cons_succ]; clear HA; have HA := Aside0.mk HB_; clear HB_)
    | (go_at_call 50; (with_reducible apply Calls.mono); (case h => exact number_at (by first | exact HA.out | exact HA.out.any rfl rfl rfl rfl) (by repeat (first | exact Holds.At.here | apply Holds.At.there)) (by rw [bytesOf_length]; exact hv) hcapbs.out (by first | exact pos_le _ _ _ | exact Nat.zero_le _ | omega) (by decide) (HSbs.out.mono (by simp)) hby.out); rintro e w1 ⟨rfl, HB_⟩; clear HA; have HA := Aside0.mk HB_; clear HB_)
    | (go_at_call 52; (with_reducible apply Calls.mono); (case h => exact done_calls _ _ _ _ (bytesOf v) w _ _ [] (by first | exact HA.out | exact HA.out.any rfl rfl rfl rfl) (by repeat (first | exact List.Mem.head _ | refine List.Mem.tail _ ?_))); rintro e w' ⟨rfl, ⟨nd, rfl⟩⟩)
    | (go_at_call 56; (with_reducible refine (good_calls _ _).mono ?_); rintro e w' ⟨rfl, ⟨nd, rfl⟩⟩)
    | (go_at_call 64; (with_reducible refine (goodk_calls _ _).mono ?_); rintro e w' ⟨rfl, ⟨nd, rfl⟩⟩))
  (apply end_list [.tmp 2, .cell 3 59, .tmp 4]; (case hres => rfl); (case hd => rfl); (case hvs => apply Vals.tmp; apply vcell (by first | exact HA.out | exact HA.out.any rfl rfl rfl rfl); (case hp => rfl); (case hm => repeat (first | exact List.Mem.head _ | refine List.Mem.tail _ ?_)); (case hag => rfl); (case hi => kernel_rfl); (case hvs => apply Vals.tmp; exact .nil)); (case hl => simp); (case hR => exact ⟨rfl, HA.out.below⟩))
set_option maxHeartbeats 8000000 in
set_option maxRecDepth 100000 in
theorem parseEntry_i (k v : ByteArray) (g : Bool) (kd dir bl : Int) (nm : ByteArray) (w : World) (hk : node_Kind.f k = some (kd, dir, nm, bl)) (hv : v.size ≤ 281474976710656) (f0 : g = false) (f1 : (kd == 2) = true) (f2 : (kd != 2) = false) (f3 : ((((pos (bytesOf v) (pos (bytesOf v) 0 2) 1) : Nat) : Int) == ((bytesOf v).length : Int)) = true) (f4 : goodInoB (leVal (nxt (bytesOf v) 0 2)) = false) :
    Calls Try.prog 42 #[.agg #[.string k, .string v, .bool g]] w fun e w' => e = .returned (.tuple #[.int .i64 0, .agg #[.string ⟨#[]⟩, .int .i64 0, .int .i64 0], .bool false]) ∧ Below w.heap.size w w' := by
  try subst f0
  have HK := Aside0.mk hk
  have hby : Aside0 (Bytes (bytesOf v)) := Aside0.mk (bytes_of v)
  have HA := Aside0.mk (Holds.start w)
  clear hk
  go_enter Try.func42, Try.ntmps42
  go_wp2_with (first
    | ((with_reducible apply load1_); (case HH => first | exact HA.out | exact HA.out.any rfl rfl rfl rfl); (case ht => rfl); (case hx => rfl); (case hw => rfl); (case hm => repeat (first | exact List.Mem.head _ | refine List.Mem.tail _ ?_)); (case hv => exact rfl); simp only [Act.put, List.setIfInBounds_toArray, List.set_cons_zero, List.set_cons_succ])
    | ((with_reducible apply loadN_ (n := 3)); (case HH => first | exact HA.out | exact HA.out.any rfl rfl rfl rfl); (case ht => rfl); (case hn => decide +kernel); (case hx => rfl); (case hw => rfl); (case hm => repeat (first | exact List.Mem.head _ | refine List.Mem.tail _ ?_)); (case hv => first | (simp only [List.drop_succ_cons, List.drop_zero, List.take_succ_cons, List.take_zero]; rfl) | rfl); (case hl => rfl); simp only [Act.put, List.setIfInBounds_toArray, List.set_cons_zero, List.set_cons_succ])
    | ((with_reducible apply box_); (case HH => first | exact HA.out | exact HA.out.any rfl rfl rfl rfl); (case hw => rfl); (case hev => conv => lhs; whnf); (case hy => rfl); intro bx w1 HB_; simp only [Act.put, List.setIfInBounds_toArray, List.set_cons_zero, List.set_cons_succ]; clear HA; have HA := Aside0.mk HB_; clear HB_)
    | ((with_reducible apply alloc_ (z := .agg #[.string ⟨#[]⟩, .int .i64 0, .int .i64 0])); (case HH => first | exact HA.out | exact HA.out.any rfl rfl rfl rfl); (case hw => rfl); (case hz => kernel_rfl); (case hx => rfl); intro bx w1 HB_; simp only [Act.put, List.setIfInBounds_toArray, List.set_cons_zero, List.set_cons_succ]; clear HA; have HA := Aside0.mk HB_; clear HB_)
    | ((with_reducible apply store_); (case HH => first | exact HA.out | exact HA.out.any rfl rfl rfl rfl); (case hw => rfl); (case hx => rfl); (case hev => conv => lhs; whnf); (case hy => rfl); (case hm => repeat (first | exact Holds.At.here | apply Holds.At.there)); (case hl => rfl); (case hn => kernel_rfl); (case h1 => simp [Value.oneCell']); (case hi => simp); intro w1 HB_; simp only [splice, List.set_cons_zero, List.set_cons_succ] at HB_; clear HA; have HA := Aside0.mk HB_; clear HB_)
    | (go_at_call 30; (with_reducible refine (node_Kind.calls k kd dir nm bl _ HK.out).mono ?_); rintro e w1 ⟨rfl, hb_⟩; have HB_ := HA.out.call1 hb_ rfl rfl rfl rfl; clear hb_; clear HA; have HA := Aside0.mk HB_; clear HB_)
    | ((with_reducible apply conv_); (case HH => first | exact HA.out | exact HA.out.any rfl rfl rfl rfl); (case hw => rfl); (case hev => conv => lhs; whnf); (case hv => rfl); (case hs => exact Try.underlying9); (case hd => exact Try.underlying34); (case he => exact Try.underlying5); intro bs w1 obs capbs HB_ HSbs hcapbs; have HSbs := Aside0.mk HSbs; have hcapbs := Aside0.mk hcapbs; simp only [Act.put, List.setIfInBounds_toArray, List.set_cons_zero, List.set_cons_succ]; clear HA; have HA := Aside0.mk HB_; clear HB_)
    | (go_at_call 50; (with_reducible apply Calls.mono); (case h => exact number_at (by first | exact HA.out | exact HA.out.any rfl rfl rfl rfl) (by repeat (first | exact Holds.At.here | apply Holds.At.there)) (by rw [bytesOf_length]; exact hv) hcapbs.out (by first | exact pos_le _ _ _ | exact Nat.zero_le _ | omega) (by decide) (HSbs.out.mono (by simp)) hby.out); rintro e w1 ⟨rfl, HB_⟩; clear HA; have HA := Aside0.mk HB_; clear HB_)
    | (go_at_call 52; (with_reducible apply Calls.mono); (case h => exact done_calls _ _ _ _ (bytesOf v) w _ _ [] (by first | exact HA.out | exact HA.out.any rfl rfl rfl rfl) (by repeat (first | exact List.Mem.head _ | refine List.Mem.tail _ ?_))); rintro e w' ⟨rfl, ⟨nd, rfl⟩⟩)
    | (go_at_call 56; (with_reducible refine (good_calls _ _).mono ?_); rintro e w' ⟨rfl, ⟨nd, rfl⟩⟩)
    | (go_at_call 64; (with_reducible refine (goodk_calls _ _).mono ?_); rintro e w' ⟨rfl, ⟨nd, rfl⟩⟩))
  (apply end_list [.tmp 2, .cell 3 59, .tmp 4]; (case hres => rfl); (case hd => rfl); (case hvs => apply Vals.tmp; apply vcell (by first | exact HA.out | exact HA.out.any rfl rfl rfl rfl); (case hp => rfl); (case hm => repeat (first | exact List.Mem.head _ | refine List.Mem.tail _ ?_)); (case hag => rfl); (case hi => kernel_rfl); (case hvs => apply Vals.tmp; exact .nil)); (case hl => simp); (case hR => exact ⟨rfl, HA.out.below⟩))
set_option maxHeartbeats 8000000 in
set_option maxRecDepth 100000 in
theorem parseEntry_t (k v : ByteArray) (g : Bool) (kd dir bl : Int) (nm : ByteArray) (w : World) (hk : node_Kind.f k = some (kd, dir, nm, bl)) (hv : v.size ≤ 281474976710656) (f0 : g = false) (f1 : (kd == 2) = true) (f2 : (kd != 2) = false) (f3 : ((((pos (bytesOf v) (pos (bytesOf v) 0 2) 1) : Nat) : Int) == ((bytesOf v).length : Int)) = true) (f4 : goodInoB (leVal (nxt (bytesOf v) 0 2)) = true) (f5 : goodKindB (leVal (nxt (bytesOf v) (pos (bytesOf v) 0 2) 1)) = false) :
    Calls Try.prog 42 #[.agg #[.string k, .string v, .bool g]] w fun e w' => e = .returned (.tuple #[.int .i64 0, .agg #[.string ⟨#[]⟩, .int .i64 0, .int .i64 0], .bool false]) ∧ Below w.heap.size w w' := by
  try subst f0
  have HK := Aside0.mk hk
  have hby : Aside0 (Bytes (bytesOf v)) := Aside0.mk (bytes_of v)
  have HA := Aside0.mk (Holds.start w)
  clear hk
  go_enter Try.func42, Try.ntmps42
  go_wp2_with (first
    | ((with_reducible apply load1_); (case HH => first | exact HA.out | exact HA.out.any rfl rfl rfl rfl); (case ht => rfl); (case hx => rfl); (case hw => rfl); (case hm => repeat (first | exact List.Mem.head _ | refine List.Mem.tail _ ?_)); (case hv => exact rfl); simp only [Act.put, List.setIfInBounds_toArray, List.set_cons_zero, List.set_cons_succ])
    | ((with_reducible apply loadN_ (n := 3)); (case HH => first | exact HA.out | exact HA.out.any rfl rfl rfl rfl); (case ht => rfl); (case hn => decide +kernel); (case hx => rfl); (case hw => rfl); (case hm => repeat (first | exact List.Mem.head _ | refine List.Mem.tail _ ?_)); (case hv => first | (simp only [List.drop_succ_cons, List.drop_zero, List.take_succ_cons, List.take_zero]; rfl) | rfl); (case hl => rfl); simp only [Act.put, List.setIfInBounds_toArray, List.set_cons_zero, List.set_cons_succ])
    | ((with_reducible apply box_); (case HH => first | exact HA.out | exact HA.out.any rfl rfl rfl rfl); (case hw => rfl); (case hev => conv => lhs; whnf); (case hy => rfl); intro bx w1 HB_; simp only [Act.put, List.setIfInBounds_toArray, List.set_cons_zero, List.set_cons_succ]; clear HA; have HA := Aside0.mk HB_; clear HB_)
    | ((with_reducible apply alloc_ (z := .agg #[.string ⟨#[]⟩, .int .i64 0, .int .i64 0])); (case HH => first | exact HA.out | exact HA.out.any rfl rfl rfl rfl); (case hw => rfl); (case hz => kernel_rfl); (case hx => rfl); intro bx w1 HB_; simp only [Act.put, List.setIfInBounds_toArray, List.set_cons_zero, List.set_cons_succ]; clear HA; have HA := Aside0.mk HB_; clear HB_)
    | ((with_reducible apply store_); (case HH => first | exact HA.out | exact HA.out.any rfl rfl rfl rfl); (case hw => rfl); (case hx => rfl); (case hev => conv => lhs; whnf); (case hy => rfl); (case hm => repeat (first | exact Holds.At.here | apply Holds.At.there)); (case hl => rfl); (case hn => kernel_rfl); (case h1 => simp [Value.oneCell']); (case hi => simp); intro w1 HB_; simp only [splice, List.set_cons_zero, List.set_cons_succ] at HB_; clear HA; have HA := Aside0.mk HB_; clear HB_)
    | (go_at_call 30; (with_reducible refine (node_Kind.calls k kd dir nm bl _ HK.out).mono ?_); rintro e w1 ⟨rfl, hb_⟩; have HB_ := HA.out.call1 hb_ rfl rfl rfl rfl; clear hb_; clear HA; have HA := Aside0.mk HB_; clear HB_)
    | ((with_reducible apply conv_); (case HH => first | exact HA.out | exact HA.out.any rfl rfl rfl rfl); (case hw => rfl); (case hev => conv => lhs; whnf); (case hv => rfl); (case hs => exact Try.underlying9); (case hd => exact Try.underlying34); (case he => exact Try.underlying5); intro bs w1 obs capbs HB_ HSbs hcapbs; have HSbs := Aside0.mk HSbs; have hcapbs := Aside0.mk hcapbs; simp only [Act.put, List.setIfInBounds_toArray, List.set_cons_zero, List.set_cons_succ]; clear HA; have HA := Aside0.mk HB_; clear HB_)
    | (go_at_call 50; (with_reducible apply Calls.mono); (case h => exact number_at (by first | exact HA.out | exact HA.out.any rfl rfl rfl rfl) (by repeat (first | exact Holds.At.here | apply Holds.At.there)) (by rw [bytesOf_length]; exact hv) hcapbs.out (by first | exact pos_le _ _ _ | exact Nat.zero_le _ | omega) (by decide) (HSbs.out.mono (by simp)) hby.out); rintro e w1 ⟨rfl, HB_⟩; clear HA; have HA := Aside0.mk HB_; clear HB_)
    | (go_at_call 52; (with_reducible apply Calls.mono); (case h => exact done_calls _ _ _ _ (bytesOf v) w _ _ [] (by first | exact HA.out | exact HA.out.any rfl rfl rfl rfl) (by repeat (first | exact List.Mem.head _ | refine List.Mem.tail _ ?_))); rintro e w' ⟨rfl, ⟨nd, rfl⟩⟩)
    | (go_at_call 56; (with_reducible refine (good_calls _ _).mono ?_); rintro e w' ⟨rfl, ⟨nd, rfl⟩⟩)
    | (go_at_call 64; (with_reducible refine (goodk_calls _ _).mono ?_); rintro e w' ⟨rfl, ⟨nd, rfl⟩⟩))
  (apply end_list [.tmp 2, .cell 3 59, .tmp 4]; (case hres => rfl); (case hd => rfl); (case hvs => apply Vals.tmp; apply vcell (by first | exact HA.out | exact HA.out.any rfl rfl rfl rfl); (case hp => rfl); (case hm => repeat (first | exact List.Mem.head _ | refine List.Mem.tail _ ?_)); (case hag => rfl); (case hi => kernel_rfl); (case hvs => apply Vals.tmp; exact .nil)); (case hl => simp); (case hR => exact ⟨rfl, HA.out.below⟩))
/-- What a node is read as_, as_ an entry. -/
def parseE (g : Bool) (kd dir : Int) (nm v : ByteArray) : Int × ByteArray × Int × Int × Bool :=
  if g = false ∧ kd = 2 ∧ (pos (bytesOf v) (pos (bytesOf v) 0 2) 1) = (bytesOf v).length ∧ goodInoB (leVal (nxt (bytesOf v) 0 2)) = true ∧ goodKindB (leVal (nxt (bytesOf v) (pos (bytesOf v) 0 2) 1)) = true then (dir, nm, leVal (nxt (bytesOf v) 0 2), leVal (nxt (bytesOf v) (pos (bytesOf v) 0 2) 1), true) else (0, ⟨#[]⟩, 0, 0, false)
def node_ParseEntry.f (k v : ByteArray) (g : Bool) : Option (Int × ByteArray × Int × Int × Bool) :=
  (node_Kind.f k).bind fun t => if v.size ≤ 281474976710656 then some (parseE g t.1 t.2.1 t.2.2.1 v) else none
theorem node_ParseEntry.calls (a0_0 : ByteArray) (a0_1 : ByteArray) (a0_2 : Bool) (r1 : Int) (r2 : ByteArray) (r3 : Int) (r4 : Int) (r5 : Bool) (w : World) (h : node_ParseEntry.f a0_0 a0_1 a0_2 = some (r1, r2, r3, r4, r5)) :
    Calls Try.prog 42 #[.agg #[.string a0_0, .string a0_1, .bool a0_2]] w fun e w' => e = .returned (.tuple #[.int .i64 r1, .agg #[.string r2, .int .i64 r3, .int .i64 r4], .bool r5]) ∧ Below w.heap.size w w' := by
  unfold node_ParseEntry.f at h
  obtain ⟨⟨kd, dir, nm, bl⟩, hk, h⟩ := Option.bind_eq_some_iff.mp h
  by_cases hv : a0_1.size ≤ 281474976710656
  rotate_left
  · rw [if_neg hv] at h
    cases h
  rw [if_pos hv] at h
  replace h := Option.some.inj h
  unfold parseE at h
  have hB : ∀ (a b : Int), a = b → (a == b) = true ∧ (a != b) = false := fun a b h => by subst h; simp
  have hN : ∀ (a b : Int), ¬ a = b → (a == b) = false ∧ (a != b) = true := fun a b h => by simp [h]
  cases a0_2 with
  | true =>
    rw [if_neg (by simp)] at h
    simp only [Prod.mk.injEq] at h
    obtain ⟨rfl, rfl, rfl, rfl, rfl⟩ := h
    exact parseEntry_g a0_0 a0_1 true kd dir bl nm w hk hv rfl
  | false =>
    by_cases h1 : kd = 2
    rotate_left
    · rw [if_neg (by simp [h1])] at h
      simp only [Prod.mk.injEq] at h
      obtain ⟨rfl, rfl, rfl, rfl, rfl⟩ := h
      exact parseEntry_k a0_0 a0_1 false kd dir bl nm w hk hv rfl (hN _ _ h1).1 (hN _ _ h1).2
    by_cases h2 : (pos (bytesOf a0_1) (pos (bytesOf a0_1) 0 2) 1) = (bytesOf a0_1).length
    rotate_left
    · rw [if_neg (fun hh => h2 hh.2.2.1)] at h
      simp only [Prod.mk.injEq] at h
      obtain ⟨rfl, rfl, rfl, rfl, rfl⟩ := h
      exact parseEntry_d a0_0 a0_1 false kd dir bl nm w hk hv rfl (hB _ _ h1).1 (hB _ _ h1).2 (hN _ _ (by omega)).1
    by_cases h3 : goodInoB (leVal (nxt (bytesOf a0_1) 0 2)) = true
    rotate_left
    · rw [if_neg (fun hh => h3 hh.2.2.2.1)] at h
      simp only [Prod.mk.injEq] at h
      obtain ⟨rfl, rfl, rfl, rfl, rfl⟩ := h
      exact parseEntry_i a0_0 a0_1 false kd dir bl nm w hk hv rfl (hB _ _ h1).1 (hB _ _ h1).2 (hB _ _ (by omega)).1 (Bool.eq_false_iff.mpr h3)
    by_cases h4 : goodKindB (leVal (nxt (bytesOf a0_1) (pos (bytesOf a0_1) 0 2) 1)) = true
    · rw [if_pos ⟨rfl, h1, h2, h3, h4⟩] at h
      simp only [Prod.mk.injEq] at h
      obtain ⟨rfl, rfl, rfl, rfl, rfl⟩ := h
      exact parseEntry_ok a0_0 a0_1 false kd dir bl nm w hk hv rfl (hB _ _ h1).1 (hB _ _ h1).2 (hB _ _ (by omega)).1 h3 h4
    · rw [if_neg (fun hh => h4 hh.2.2.2.2)] at h
      simp only [Prod.mk.injEq] at h
      obtain ⟨rfl, rfl, rfl, rfl, rfl⟩ := h
      exact parseEntry_t a0_0 a0_1 false kd dir bl nm w hk hv rfl (hB _ _ h1).1 (hB _ _ h1).2 (hB _ _ (by omega)).1 h3 (Bool.eq_false_iff.mpr h4)
end Go.Proofs.Ytakchpeohmkpkaa.Q

namespace Go.Proofs.Ytakchpeohmkpkaa.Q
open Go.RowKit Go.Proofs.YtakchpeohmkpkaaW.PrintWords Go.Proofs.YtakchpeohmkpkaaW.PrintLast Go.Proofs.YtakchpeohmkpkaaW.PrintMore Go.Proofs.Ytakchpeohmkpkaa.Sep
set_option linter.unusedVariables false
set_option linter.unusedSimpArgs false
set_option maxHeartbeats 8000000 in
set_option maxRecDepth 100000 in
theorem mark_ok (A0 : Option Addr) (c0 : Nat) (l0 : List Int) (w : World) (hr0 : Kd.C (Kd.int .u8) w A0 l0.length l0) (hc0 : l0.length ≤ c0) (hl : l0.length ≤ 281474976710656) (hb : Bytes l0) (f0 : (leVal (nxt l0 0 1) == 3) = true) (f1 : (leVal (nxt l0 0 1) != 3) = false) (f2 : ((((pos l0 (pos l0 (pos l0 0 1) 8) 1) : Nat) : Int) == (l0.length : Int)) = true) (f3 : decide (leVal (nxt l0 (pos l0 (pos l0 0 1) 8) 1) < 1) = false) (f4 : decide (16 < leVal (nxt l0 (pos l0 (pos l0 0 1) 8) 1)) = false) :
    Calls Try.prog 28 #[.slice A0 l0.length c0] w fun e w' => e = .returned (.tuple #[.int .u64 (leVal (nxt l0 (pos l0 0 1) 8)), .int .i64 (leVal (nxt l0 (pos l0 (pos l0 0 1) 8) 1)), .bool true]) ∧ Below w.heap.size w w' := by
  have HS : Aside0 (Src (Value.int .u8) w [] A0 l0) := Aside0.mk (Src.of_C (h1 := fun _ => rfl) hr0)
  have HL := Aside0.mk hl
  have hby := Aside0.mk hb
  have HC := Aside0.mk hc0
  have HA := Aside0.mk (Holds.start w)
  have HG := Aside0.mk (get_val (nxt l0 (pos l0 0 1) 8) (hb.nxt (pos l0 0 1) 8) (nxt_le l0 _ 8))
  clear hr0 hl hb hc0
  go_enter Try.func28, Try.ntmps28
  go_wp2_with (first
    | ((with_reducible apply load1_); (case HH => first | exact HA.out | exact HA.out.any rfl rfl rfl rfl); (case ht => rfl); (case hx => rfl); (case hw => rfl); (case hm => repeat (first | exact List.Mem.head _ | refine List.Mem.tail _ ?_)); (case hv => exact rfl); simp only [Act.put, List.setIfInBounds_toArray, List.set_cons_zero, List.set_cons_succ])
    | ((with_reducible apply box_); (case HH => first | exact HA.out | exact HA.out.any rfl rfl rfl rfl); (case hw => rfl); (case hev => conv => lhs; whnf); (case hy => rfl); intro bx w1 HB_; simp only [Act.put, List.setIfInBounds_toArray, List.set_cons_zero, List.set_cons_succ]; clear HA; have HA := Aside0.mk HB_; clear HB_)
    | (go_at_call 50; (with_reducible apply Calls.mono); (case h => exact number_at (by first | exact HA.out | exact HA.out.any rfl rfl rfl rfl) (by repeat (first | exact Holds.At.here | apply Holds.At.there)) HL.out HC.out (by first | exact pos_le _ _ _ | exact Nat.zero_le _ | omega) (by decide) (HS.out.mono (by simp)) hby.out); rintro e w1 ⟨rfl, HB_⟩; clear HA; have HA := Aside0.mk HB_; clear HB_)
    | (go_at_call 51; (with_reducible apply Calls.mono); (case h => exact next_at (k := 8) (by first | exact HA.out | exact HA.out.any rfl rfl rfl rfl) (by repeat (first | exact Holds.At.here | apply Holds.At.there)) HL.out HC.out (by exact pos_le _ _ _) (by decide) rfl HS.out); rintro e w1 ⟨A8, d8, rfl, hd8, hs8, HB_⟩; clear HA; have HA := Aside0.mk HB_; clear HB_; have HS8 := Aside0.mk hs8; have HD8 := Aside0.mk hd8; clear hs8 hd8)
    | (go_at_call 53; (with_reducible apply Calls.mono); (case h => exact bits_Get.calls 9 A8 d8 _ _ _ (HS8.out.C (h1 := fun _ => rfl) HA.out.none (by have := nxt_le l0 (pos l0 0 1) 8; omega)) HD8.out HG.out); rintro e w1 ⟨rfl, hb_⟩; have HB_ := HA.out.call1 hb_ rfl rfl rfl rfl; clear hb_ HA; have HA := Aside0.mk HB_; clear HB_)
    | (go_at_call 52; (with_reducible apply Calls.mono); (case h => exact done_calls _ _ _ _ l0 w _ _ [] (by first | exact HA.out | exact HA.out.any rfl rfl rfl rfl) (by repeat (first | exact List.Mem.head _ | refine List.Mem.tail _ ?_))); rintro e w' ⟨rfl, ⟨nd, rfl⟩⟩))
  (apply end_list [.tmp 2, .tmp 3, .tmp 4]; (case hres => rfl); (case hd => rfl); (case hvs => apply Vals.tmp; apply Vals.tmp; apply Vals.tmp; exact .nil); (case hl => simp); (case hR => exact ⟨rfl, by first | exact HA.out.below | exact (HA.out.drewN _).below⟩))
set_option maxHeartbeats 8000000 in
set_option maxRecDepth 100000 in
theorem mark_k (A0 : Option Addr) (c0 : Nat) (l0 : List Int) (w : World) (hr0 : Kd.C (Kd.int .u8) w A0 l0.length l0) (hc0 : l0.length ≤ c0) (hl : l0.length ≤ 281474976710656) (hb : Bytes l0) (f0 : (leVal (nxt l0 0 1) == 3) = false) (f1 : (leVal (nxt l0 0 1) != 3) = true) :
    Calls Try.prog 28 #[.slice A0 l0.length c0] w fun e w' => e = .returned (.tuple #[.int .u64 0, .int .i64 0, .bool false]) ∧ Below w.heap.size w w' := by
  have HS : Aside0 (Src (Value.int .u8) w [] A0 l0) := Aside0.mk (Src.of_C (h1 := fun _ => rfl) hr0)
  have HL := Aside0.mk hl
  have hby := Aside0.mk hb
  have HC := Aside0.mk hc0
  have HA := Aside0.mk (Holds.start w)
  have HG := Aside0.mk (get_val (nxt l0 (pos l0 0 1) 8) (hb.nxt (pos l0 0 1) 8) (nxt_le l0 _ 8))
  clear hr0 hl hb hc0
  go_enter Try.func28, Try.ntmps28
  go_wp2_with (first
    | ((with_reducible apply load1_); (case HH => first | exact HA.out | exact HA.out.any rfl rfl rfl rfl); (case ht => rfl); (case hx => rfl); (case hw => rfl); (case hm => repeat (first | exact List.Mem.head _ | refine List.Mem.tail _ ?_)); (case hv => exact rfl); simp only [Act.put, List.setIfInBounds_toArray, List.set_cons_zero, List.set_cons_succ])
    | ((with_reducible apply box_); (case HH => first | exact HA.out | exact HA.out.any rfl rfl rfl rfl); (case hw => rfl); (case hev => conv => lhs; whnf); (case hy => rfl); intro bx w1 HB_; simp only [Act.put, List.setIfInBounds_toArray, List.set_cons_zero, List.set_cons_succ]; clear HA; have HA := Aside0.mk HB_; clear HB_)
    | (go_at_call 50; (with_reducible apply Calls.mono); (case h => exact number_at (by first | exact HA.out | exact HA.out.any rfl rfl rfl rfl) (by repeat (first | exact Holds.At.here | apply Holds.At.there)) HL.out HC.out (by first | exact pos_le _ _ _ | exact Nat.zero_le _ | omega) (by decide) (HS.out.mono (by simp)) hby.out); rintro e w1 ⟨rfl, HB_⟩; clear HA; have HA := Aside0.mk HB_; clear HB_)
    | (go_at_call 51; (with_reducible apply Calls.mono); (case h => exact next_at (k := 8) (by first | exact HA.out | exact HA.out.any rfl rfl rfl rfl) (by repeat (first | exact Holds.At.here | apply Holds.At.there)) HL.out HC.out (by exact pos_le _ _ _) (by decide) rfl HS.out); rintro e w1 ⟨A8, d8, rfl, hd8, hs8, HB_⟩; clear HA; have HA := Aside0.mk HB_; clear HB_; have HS8 := Aside0.mk hs8; have HD8 := Aside0.mk hd8; clear hs8 hd8)
    | (go_at_call 53; (with_reducible apply Calls.mono); (case h => exact bits_Get.calls 9 A8 d8 _ _ _ (HS8.out.C (h1 := fun _ => rfl) HA.out.none (by have := nxt_le l0 (pos l0 0 1) 8; omega)) HD8.out HG.out); rintro e w1 ⟨rfl, hb_⟩; have HB_ := HA.out.call1 hb_ rfl rfl rfl rfl; clear hb_ HA; have HA := Aside0.mk HB_; clear HB_)
    | (go_at_call 52; (with_reducible apply Calls.mono); (case h => exact done_calls _ _ _ _ l0 w _ _ [] (by first | exact HA.out | exact HA.out.any rfl rfl rfl rfl) (by repeat (first | exact List.Mem.head _ | refine List.Mem.tail _ ?_))); rintro e w' ⟨rfl, ⟨nd, rfl⟩⟩))
  (apply end_list [.tmp 2, .tmp 3, .tmp 4]; (case hres => rfl); (case hd => rfl); (case hvs => apply Vals.tmp; apply Vals.tmp; apply Vals.tmp; exact .nil); (case hl => simp); (case hR => exact ⟨rfl, by first | exact HA.out.below | exact (HA.out.drewN _).below⟩))
set_option maxHeartbeats 8000000 in
set_option maxRecDepth 100000 in
theorem mark_d (A0 : Option Addr) (c0 : Nat) (l0 : List Int) (w : World) (hr0 : Kd.C (Kd.int .u8) w A0 l0.length l0) (hc0 : l0.length ≤ c0) (hl : l0.length ≤ 281474976710656) (hb : Bytes l0) (f0 : (leVal (nxt l0 0 1) == 3) = true) (f1 : (leVal (nxt l0 0 1) != 3) = false) (f2 : ((((pos l0 (pos l0 (pos l0 0 1) 8) 1) : Nat) : Int) == (l0.length : Int)) = false) :
    Calls Try.prog 28 #[.slice A0 l0.length c0] w fun e w' => e = .returned (.tuple #[.int .u64 0, .int .i64 0, .bool false]) ∧ Below w.heap.size w w' := by
  have HS : Aside0 (Src (Value.int .u8) w [] A0 l0) := Aside0.mk (Src.of_C (h1 := fun _ => rfl) hr0)
  have HL := Aside0.mk hl
  have hby := Aside0.mk hb
  have HC := Aside0.mk hc0
  have HA := Aside0.mk (Holds.start w)
  have HG := Aside0.mk (get_val (nxt l0 (pos l0 0 1) 8) (hb.nxt (pos l0 0 1) 8) (nxt_le l0 _ 8))
  clear hr0 hl hb hc0
  go_enter Try.func28, Try.ntmps28
  go_wp2_with (first
    | ((with_reducible apply load1_); (case HH => first | exact HA.out | exact HA.out.any rfl rfl rfl rfl); (case ht => rfl); (case hx => rfl); (case hw => rfl); (case hm => repeat (first | exact List.Mem.head _ | refine List.Mem.tail _ ?_)); (case hv => exact rfl); simp only [Act.put, List.setIfInBounds_toArray, List.set_cons_zero, List.set_cons_succ])
    | ((with_reducible apply box_); (case HH => first | exact HA.out | exact HA.out.any rfl rfl rfl rfl); (case hw => rfl); (case hev => conv => lhs; whnf); (case hy => rfl); intro bx w1 HB_; simp only [Act.put, List.setIfInBounds_toArray, List.set_cons_zero, List.set_cons_succ]; clear HA; have HA := Aside0.mk HB_; clear HB_)
    | (go_at_call 50; (with_reducible apply Calls.mono); (case h => exact number_at (by first | exact HA.out | exact HA.out.any rfl rfl rfl rfl) (by repeat (first | exact Holds.At.here | apply Holds.At.there)) HL.out HC.out (by first | exact pos_le _ _ _ | exact Nat.zero_le _ | omega) (by decide) (HS.out.mono (by simp)) hby.out); rintro e w1 ⟨rfl, HB_⟩; clear HA; have HA := Aside0.mk HB_; clear HB_)
    | (go_at_call 51; (with_reducible apply Calls.mono); (case h => exact next_at (k := 8) (by first | exact HA.out | exact HA.out.any rfl rfl rfl rfl) (by repeat (first | exact Holds.At.here | apply Holds.At.there)) HL.out HC.out (by exact pos_le _ _ _) (by decide) rfl HS.out); rintro e w1 ⟨A8, d8, rfl, hd8, hs8, HB_⟩; clear HA; have HA := Aside0.mk HB_; clear HB_; have HS8 := Aside0.mk hs8; have HD8 := Aside0.mk hd8; clear hs8 hd8)
    | (go_at_call 53; (with_reducible apply Calls.mono); (case h => exact bits_Get.calls 9 A8 d8 _ _ _ (HS8.out.C (h1 := fun _ => rfl) HA.out.none (by have := nxt_le l0 (pos l0 0 1) 8; omega)) HD8.out HG.out); rintro e w1 ⟨rfl, hb_⟩; have HB_ := HA.out.call1 hb_ rfl rfl rfl rfl; clear hb_ HA; have HA := Aside0.mk HB_; clear HB_)
    | (go_at_call 52; (with_reducible apply Calls.mono); (case h => exact done_calls _ _ _ _ l0 w _ _ [] (by first | exact HA.out | exact HA.out.any rfl rfl rfl rfl) (by repeat (first | exact List.Mem.head _ | refine List.Mem.tail _ ?_))); rintro e w' ⟨rfl, ⟨nd, rfl⟩⟩))
  (apply end_list [.tmp 2, .tmp 3, .tmp 4]; (case hres => rfl); (case hd => rfl); (case hvs => apply Vals.tmp; apply Vals.tmp; apply Vals.tmp; exact .nil); (case hl => simp); (case hR => exact ⟨rfl, by first | exact HA.out.below | exact (HA.out.drewN _).below⟩))
set_option maxHeartbeats 8000000 in
set_option maxRecDepth 100000 in
theorem mark_l (A0 : Option Addr) (c0 : Nat) (l0 : List Int) (w : World) (hr0 : Kd.C (Kd.int .u8) w A0 l0.length l0) (hc0 : l0.length ≤ c0) (hl : l0.length ≤ 281474976710656) (hb : Bytes l0) (f0 : (leVal (nxt l0 0 1) == 3) = true) (f1 : (leVal (nxt l0 0 1) != 3) = false) (f2 : ((((pos l0 (pos l0 (pos l0 0 1) 8) 1) : Nat) : Int) == (l0.length : Int)) = true) (f3 : decide (leVal (nxt l0 (pos l0 (pos l0 0 1) 8) 1) < 1) = true) :
    Calls Try.prog 28 #[.slice A0 l0.length c0] w fun e w' => e = .returned (.tuple #[.int .u64 0, .int .i64 0, .bool false]) ∧ Below w.heap.size w w' := by
  have HS : Aside0 (Src (Value.int .u8) w [] A0 l0) := Aside0.mk (Src.of_C (h1 := fun _ => rfl) hr0)
  have HL := Aside0.mk hl
  have hby := Aside0.mk hb
  have HC := Aside0.mk hc0
  have HA := Aside0.mk (Holds.start w)
  have HG := Aside0.mk (get_val (nxt l0 (pos l0 0 1) 8) (hb.nxt (pos l0 0 1) 8) (nxt_le l0 _ 8))
  clear hr0 hl hb hc0
  go_enter Try.func28, Try.ntmps28
  go_wp2_with (first
    | ((with_reducible apply load1_); (case HH => first | exact HA.out | exact HA.out.any rfl rfl rfl rfl); (case ht => rfl); (case hx => rfl); (case hw => rfl); (case hm => repeat (first | exact List.Mem.head _ | refine List.Mem.tail _ ?_)); (case hv => exact rfl); simp only [Act.put, List.setIfInBounds_toArray, List.set_cons_zero, List.set_cons_succ])
    | ((with_reducible apply box_); (case HH => first | exact HA.out | exact HA.out.any rfl rfl rfl rfl); (case hw => rfl); (case hev => conv => lhs; whnf); (case hy => rfl); intro bx w1 HB_; simp only [Act.put, List.setIfInBounds_toArray, List.set_cons_zero, List.set_cons_succ]; clear HA; have HA := Aside0.mk HB_; clear HB_)
    | (go_at_call 50; (with_reducible apply Calls.mono); (case h => exact number_at (by first | exact HA.out | exact HA.out.any rfl rfl rfl rfl) (by repeat (first | exact Holds.At.here | apply Holds.At.there)) HL.out HC.out (by first | exact pos_le _ _ _ | exact Nat.zero_le _ | omega) (by decide) (HS.out.mono (by simp)) hby.out); rintro e w1 ⟨rfl, HB_⟩; clear HA; have HA := Aside0.mk HB_; clear HB_)
    | (go_at_call 51; (with_reducible apply Calls.mono); (case h => exact next_at (k := 8) (by first | exact HA.out | exact HA.out.any rfl rfl rfl rfl) (by repeat (first | exact Holds.At.here | apply Holds.At.there)) HL.out HC.out (by exact pos_le _ _ _) (by decide) rfl HS.out); rintro e w1 ⟨A8, d8, rfl, hd8, hs8, HB_⟩; clear HA; have HA := Aside0.mk HB_; clear HB_; have HS8 := Aside0.mk hs8; have HD8 := Aside0.mk hd8; clear hs8 hd8)
    | (go_at_call 53; (with_reducible apply Calls.mono); (case h => exact bits_Get.calls 9 A8 d8 _ _ _ (HS8.out.C (h1 := fun _ => rfl) HA.out.none (by have := nxt_le l0 (pos l0 0 1) 8; omega)) HD8.out HG.out); rintro e w1 ⟨rfl, hb_⟩; have HB_ := HA.out.call1 hb_ rfl rfl rfl rfl; clear hb_ HA; have HA := Aside0.mk HB_; clear HB_)
    | (go_at_call 52; (with_reducible apply Calls.mono); (case h => exact done_calls _ _ _ _ l0 w _ _ [] (by first | exact HA.out | exact HA.out.any rfl rfl rfl rfl) (by repeat (first | exact List.Mem.head _ | refine List.Mem.tail _ ?_))); rintro e w' ⟨rfl, ⟨nd, rfl⟩⟩))
  (apply end_list [.tmp 2, .tmp 3, .tmp 4]; (case hres => rfl); (case hd => rfl); (case hvs => apply Vals.tmp; apply Vals.tmp; apply Vals.tmp; exact .nil); (case hl => simp); (case hR => exact ⟨rfl, by first | exact HA.out.below | exact (HA.out.drewN _).below⟩))
set_option maxHeartbeats 8000000 in
set_option maxRecDepth 100000 in
theorem mark_h (A0 : Option Addr) (c0 : Nat) (l0 : List Int) (w : World) (hr0 : Kd.C (Kd.int .u8) w A0 l0.length l0) (hc0 : l0.length ≤ c0) (hl : l0.length ≤ 281474976710656) (hb : Bytes l0) (f0 : (leVal (nxt l0 0 1) == 3) = true) (f1 : (leVal (nxt l0 0 1) != 3) = false) (f2 : ((((pos l0 (pos l0 (pos l0 0 1) 8) 1) : Nat) : Int) == (l0.length : Int)) = true) (f3 : decide (leVal (nxt l0 (pos l0 (pos l0 0 1) 8) 1) < 1) = false) (f4 : decide (16 < leVal (nxt l0 (pos l0 (pos l0 0 1) 8) 1)) = true) :
    Calls Try.prog 28 #[.slice A0 l0.length c0] w fun e w' => e = .returned (.tuple #[.int .u64 0, .int .i64 0, .bool false]) ∧ Below w.heap.size w w' := by
  have HS : Aside0 (Src (Value.int .u8) w [] A0 l0) := Aside0.mk (Src.of_C (h1 := fun _ => rfl) hr0)
  have HL := Aside0.mk hl
  have hby := Aside0.mk hb
  have HC := Aside0.mk hc0
  have HA := Aside0.mk (Holds.start w)
  have HG := Aside0.mk (get_val (nxt l0 (pos l0 0 1) 8) (hb.nxt (pos l0 0 1) 8) (nxt_le l0 _ 8))
  clear hr0 hl hb hc0
  go_enter Try.func28, Try.ntmps28
  go_wp2_with (first
    | ((with_reducible apply load1_); (case HH => first | exact HA.out | exact HA.out.any rfl rfl rfl rfl); (case ht => rfl); (case hx => rfl); (case hw => rfl); (case hm => repeat (first | exact List.Mem.head _ | refine List.Mem.tail _ ?_)); (case hv => exact rfl); simp only [Act.put, List.setIfInBounds_toArray, List.set_cons_zero, List.set_cons_succ])
    | ((with_reducible apply box_); (case HH => first | exact HA.out | exact HA.out.any rfl rfl rfl rfl); (case hw => rfl); (case hev => conv => lhs; whnf); (case hy => rfl); intro bx w1 HB_; simp only [Act.put, List.setIfInBounds_toArray, List.set_cons_zero, List.set_cons_succ]; clear HA; have HA := Aside0.mk HB_; clear HB_)
    | (go_at_call 50; (with_reducible apply Calls.mono); (case h => exact number_at (by first | exact HA.out | exact HA.out.any rfl rfl rfl rfl) (by repeat (first | exact Holds.At.here | apply Holds.At.there)) HL.out HC.out (by first | exact pos_le _ _ _ | exact Nat.zero_le _ | omega) (by decide) (HS.out.mono (by simp)) hby.out); rintro e w1 ⟨rfl, HB_⟩; clear HA; have HA := Aside0.mk HB_; clear HB_)
    | (go_at_call 51; (with_reducible apply Calls.mono); (case h => exact next_at (k := 8) (by first | exact HA.out | exact HA.out.any rfl rfl rfl rfl) (by repeat (first | exact Holds.At.here | apply Holds.At.there)) HL.out HC.out (by exact pos_le _ _ _) (by decide) rfl HS.out); rintro e w1 ⟨A8, d8, rfl, hd8, hs8, HB_⟩; clear HA; have HA := Aside0.mk HB_; clear HB_; have HS8 := Aside0.mk hs8; have HD8 := Aside0.mk hd8; clear hs8 hd8)
    | (go_at_call 53; (with_reducible apply Calls.mono); (case h => exact bits_Get.calls 9 A8 d8 _ _ _ (HS8.out.C (h1 := fun _ => rfl) HA.out.none (by have := nxt_le l0 (pos l0 0 1) 8; omega)) HD8.out HG.out); rintro e w1 ⟨rfl, hb_⟩; have HB_ := HA.out.call1 hb_ rfl rfl rfl rfl; clear hb_ HA; have HA := Aside0.mk HB_; clear HB_)
    | (go_at_call 52; (with_reducible apply Calls.mono); (case h => exact done_calls _ _ _ _ l0 w _ _ [] (by first | exact HA.out | exact HA.out.any rfl rfl rfl rfl) (by repeat (first | exact List.Mem.head _ | refine List.Mem.tail _ ?_))); rintro e w' ⟨rfl, ⟨nd, rfl⟩⟩))
  (apply end_list [.tmp 2, .tmp 3, .tmp 4]; (case hres => rfl); (case hd => rfl); (case hvs => apply Vals.tmp; apply Vals.tmp; apply Vals.tmp; exact .nil); (case hl => simp); (case hR => exact ⟨rfl, by first | exact HA.out.below | exact (HA.out.drewN _).below⟩))
/-- What bytes are read as_, as_ a mark. -/
def parseM (l0 : List Int) : Int × Int × Bool := if leVal (nxt l0 0 1) = 3 ∧ (pos l0 (pos l0 (pos l0 0 1) 8) 1) = l0.length ∧ 1 ≤ leVal (nxt l0 (pos l0 (pos l0 0 1) 8) 1) ∧ leVal (nxt l0 (pos l0 (pos l0 0 1) 8) 1) ≤ 16 then (leVal (nxt l0 (pos l0 0 1) 8), leVal (nxt l0 (pos l0 (pos l0 0 1) 8) 1), true) else (0, 0, false)
def node_ParseMark.f (l0 : List Int) : Option (Int × Int × Bool) := if byteB l0 = true ∧ l0.length ≤ 281474976710656 then some (parseM l0) else none
theorem node_ParseMark.calls (A0 : Option Addr) (c0 : Nat) (l0 : List Int) (r1 : Int) (r2 : Int) (r3 : Bool) (w : World) (hr0 : Kd.C (Kd.int .u8) w A0 l0.length l0) (hc0 : l0.length ≤ c0) (h : node_ParseMark.f l0 = some (r1, r2, r3)) :
    Calls Try.prog 28 #[.slice A0 l0.length c0] w fun e w' => e = .returned (.tuple #[.int .u64 r1, .int .i64 r2, .bool r3]) ∧ Below w.heap.size w w' := by
  unfold node_ParseMark.f at h
  by_cases hbl : byteB l0 = true ∧ l0.length ≤ 281474976710656
  rotate_left
  · rw [if_neg hbl] at h
    cases h
  rw [if_pos hbl] at h
  obtain ⟨hb, hl⟩ := hbl
  replace hb := byteB_spec hb
  replace h := Option.some.inj h
  unfold parseM at h
  have hB : ∀ (a b : Int), a = b → (a == b) = true ∧ (a != b) = false := fun a b h => by subst h; simp
  have hN : ∀ (a b : Int), ¬ a = b → (a == b) = false ∧ (a != b) = true := fun a b h => by simp [h]
  by_cases h1 : leVal (nxt l0 0 1) = 3
  rotate_left
  · rw [if_neg (fun hh => h1 hh.1)] at h
    simp only [Prod.mk.injEq] at h
    obtain ⟨rfl, rfl, rfl⟩ := h
    exact mark_k A0 c0 l0 w hr0 hc0 hl hb (hN _ _ h1).1 (hN _ _ h1).2
  by_cases h2 : (pos l0 (pos l0 (pos l0 0 1) 8) 1) = l0.length
  rotate_left
  · rw [if_neg (fun hh => h2 hh.2.1)] at h
    simp only [Prod.mk.injEq] at h
    obtain ⟨rfl, rfl, rfl⟩ := h
    exact mark_d A0 c0 l0 w hr0 hc0 hl hb (hB _ _ h1).1 (hB _ _ h1).2 (hN _ _ (by omega)).1
  by_cases h3 : leVal (nxt l0 (pos l0 (pos l0 0 1) 8) 1) < 1
  · rw [if_neg (fun hh => by omega)] at h
    simp only [Prod.mk.injEq] at h
    obtain ⟨rfl, rfl, rfl⟩ := h
    exact mark_l A0 c0 l0 w hr0 hc0 hl hb (hB _ _ h1).1 (hB _ _ h1).2 (hB _ _ (by omega)).1 (decide_eq_true h3)
  by_cases h4 : 16 < leVal (nxt l0 (pos l0 (pos l0 0 1) 8) 1)
  · rw [if_neg (fun hh => by omega)] at h
    simp only [Prod.mk.injEq] at h
    obtain ⟨rfl, rfl, rfl⟩ := h
    exact mark_h A0 c0 l0 w hr0 hc0 hl hb (hB _ _ h1).1 (hB _ _ h1).2 (hB _ _ (by omega)).1 (decide_eq_false h3) (decide_eq_true h4)
  · rw [if_pos ⟨h1, h2, by omega, by omega⟩] at h
    simp only [Prod.mk.injEq] at h
    obtain ⟨rfl, rfl, rfl⟩ := h
    exact mark_ok A0 c0 l0 w hr0 hc0 hl hb (hB _ _ h1).1 (hB _ _ h1).2 (hB _ _ (by omega)).1 (decide_eq_false h3) (decide_eq_false h4)
end Go.Proofs.Ytakchpeohmkpkaa.Q
