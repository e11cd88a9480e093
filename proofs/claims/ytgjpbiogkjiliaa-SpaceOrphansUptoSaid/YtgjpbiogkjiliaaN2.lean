/- The writer of node: (*writer).put. -/
import Derived.Test.YtgjpbiogkjiliaaQ0
import Derived.Test.YtgjpbiogkjiliaaN3
import Derived.Deep.RegionLaw
namespace Go.Proofs.Ytgjpbiogkjiliaa.Q
open Go.RowKit Go.Proofs.YtgjpbiogkjiliaaW.PrintWords Go.Proofs.YtgjpbiogkjiliaaW.PrintLast Go.Proofs.YtgjpbiogkjiliaaW.PrintMore
set_option linter.unusedVariables false
set_option linter.unusedSimpArgs false

/-- The writer at block g holds the bytes xs. -/
structure Writer (w : World) (base g : Nat) (v : Value) (xs : List Int) : Prop where
  blk : w.heap[g]? = some (.cells #[v] 60 (0, 0))
  row : Kd.R (Kd.int .u8) 5 w base (fun _ => True) v xs
  base_le : base ≤ g

theorem Writer.cell {w : World} {base g : Nat} {v : Value} {xs : List Int} (h : Writer w base g v xs) : w.cell? ⟨g, 0, none⟩ = some v := by simp [World.cell?, h.blk]
theorem Writer.lt {w : World} {base g : Nat} {v : Value} {xs : List Int} (h : Writer w base g v xs) : g < w.heap.size := World.block_lt_of_cell? w _ h.cell
theorem Writer.below {w w1 : World} {base g : Nat} {v : Value} {xs : List Int} (h : Writer w base g v xs) (hb : Below w.heap.size w w1) : Writer w1 base g v xs :=
  ⟨by rw [hb.block g h.lt]; exact h.blk, Kd.R_below h.row hb, h.base_le⟩
theorem Writer.ne {w : World} {base g : Nat} {v : Value} {xs : List Int} (h : Writer w base g v xs) : some g ≠ v.ownBlock := Kd.R_ne h.row h.blk (by decide)
/-- The row has been grown and laid into the field. -/
theorem Writer.stored {w w1 : World} {base g : Nat} {v v1 : Value} {xs zs : List Int} (h : Writer w base g v xs) (hg : w.grownBy w1 v.ownBlock) (ho : Kd.R (Kd.int .u8) 5 w1 base (fun _ => True) v1 zs) : w1.cell? ⟨g, 0, none⟩ = some v ∧ w1.frozen? ⟨g, 0, none⟩ = false ∧ Writer (w1.setCell ⟨g, 0, none⟩ v1) base g v1 zs := by
  have hb : w1.heap[g]? = some (.cells #[v] 60 (0, 0)) := by rw [hg.block g h.lt h.ne]; exact h.blk
  refine ⟨by simp [World.cell?, hb], by simp [World.frozen?, hb], ⟨?_, Kd.R_set ho hb (by decide) 0 v1, h.base_le⟩⟩
  simpa using heap_setCell_same w1 g 0 #[v] 60 v1 hb

/-- Blocks that hold no bytes stay, but for g. -/
def Stays (w w' : World) (g : Nat) : Prop := ∀ b cs t, t ≠ 5 → b ≠ g → w.heap[b]? = some (.cells cs t (0, 0)) → w'.heap[b]? = some (.cells cs t (0, 0))
theorem Stays.grown {w w1 w2 : World} {base g : Nat} {v : Value} {xs : List Int} (hb : Below w.heap.size w w1) (hg : w1.grownBy w2 v.ownBlock) (hr : Kd.R (Kd.int .u8) 5 w1 base (fun _ => True) v xs) : Stays w w2 g := by
  intro b cs t ht hbg h
  have hlt : b < w.heap.size := (Array.getElem?_eq_some_iff.1 h).1
  have h1 : w1.heap[b]? = some (.cells cs t (0, 0)) := (hb.block b hlt).trans h
  exact (hg.block b (Nat.lt_of_lt_of_le hlt hb.size) (Kd.R_ne hr h1 (fun e => ht e.symm))).trans h1
theorem Stays.set {w w1 : World} {g : Nat} (h : Stays w w1 g) (j : Nat) (u : Value) : Stays w (w1.setCell ⟨g, j, none⟩ u) g :=
  fun b cs t ht hbg hb => (Below.heap_setCell w1 ⟨g, j, none⟩ u b hbg).trans (h b cs t ht hbg hb)
section
variable {P : Program} {ops : Array Oper} {rest : List Oper} {o : Oper} {a : Act} {Q : Exit → Act → World → Prop} {Kc : Act → World → Prop}
/-- append(row, text...) of a row of one's own, run. -/
theorem run_append_str {W : World} (base : Nat) (t u ty e : TypeId) (ht : P.underlying t = some (.slice e)) (hu : P.underlying u = some .string) (hinfo : (P.info? e).map (fun i => (i.zero, i.size, i.bytes)) = some (some (.int .u8 0), 1, 1))
    (v : Value) (xs : List Int) (y : ByteArray) (HO : Kd.R (Kd.int .u8) e W base (fun _ => True) v xs) (hbase : base ≤ W.heap.size) (hl : xs.length + y.size ≤ 140737488355328) :
    ∃ v1 w1, (Builtin.append_ #[t, u] ty #[v, .string y]).run P W = .ok v1 w1 ∧ Kd.R (Kd.int .u8) e w1 base (fun _ => True) v1 (xs ++ bytesOf y) ∧ W.grownBy w1 v.ownBlock := by
  obtain ⟨i0, hi, hzz⟩ := Option.map_eq_some_iff.1 hinfo
  simp only [Prod.mk.injEq] at hzz
  obtain ⟨hz0, hz1, hz2⟩ := hzz
  obtain ⟨v1, w1, hr, h2, h3, _⟩ := Lib.run_append_own_string (P := P) W base t u ty e i0 ht hu hi hz0 hz1 hz2 v xs.length _ (Kd.own_of_R HO) y (by simp only [maxLen]; omega) hl hbase
  refine ⟨v1, w1, hr, Kd.R_of_own ?_ (fun _ _ => trivial), h3⟩
  have hl2 : (xs ++ bytesOf y).length = xs.length + y.size := by rw [List.length_append, bytesOf_length]
  have hc : encs (Value.int .u8) (xs ++ bytesOf y) = encs (Value.int .u8) xs ++ Lib.strCells y := by
    simp [encs, bytesOf, Lib.strCells]
  rw [hl2, hc]
  exact h2
theorem str_append_list {W : World} (base : Nat) (hgd : o.guard = none) (s x : Operand) (t u e : TypeId) (ho : o.op = .call { callee := .builtin .append, args := #[s, x], argTypes := #[t, u] })
    (ht : P.underlying t = some (.slice e)) (hu : P.underlying u = some .string) (hinfo : (P.info? e).map (fun i => (i.zero, i.size, i.bytes)) = some (some (.int .u8 0), 1, 1))
    (v : Value) (xs : List Int) (y : ByteArray) (hs : a.eval s = v) (hx : a.eval x = .string y) (HO : Kd.R (Kd.int .u8) e W base (fun _ => True) v xs) (hbase : base ≤ W.heap.size) (hl : xs.length + y.size ≤ 140737488355328)
    (h : ∀ v1 w1, Kd.R (Kd.int .u8) e w1 base (fun _ => True) v1 (xs ++ bytesOf y) → W.grownBy w1 v.ownBlock → wpList P ops Q rest (a.put o.dst v1) w1) : wpList P ops Q (o :: rest) a W := by
  refine wpList_plain hgd fun K hK => ?_
  obtain ⟨v', w', hr, h2, h3⟩ := run_append_str (P := P) base t u o.type e ht hu hinfo v xs y HO hbase hl
  unfold Oper.wp execOp
  simp only [ho, resolve, invoke, builtin, Sem.run_bind, Sem.run_pure, Result.andThen_ok, List.map_toArray, List.map_cons, List.map_nil, hs, hx, hr]
  exact hK _ _ (h v' w' h2 h3)
theorem str_append_step {W : World} (base : Nat) (hw : Region.wanted o (yielded ops a.tmps) = true) (s x : Operand) (t u e : TypeId) (ho : o.op = .call { callee := .builtin .append, args := #[s, x], argTypes := #[t, u] })
    (ht : P.underlying t = some (.slice e)) (hu : P.underlying u = some .string) (hinfo : (P.info? e).map (fun i => (i.zero, i.size, i.bytes)) = some (some (.int .u8 0), 1, 1))
    (v : Value) (xs : List Int) (y : ByteArray) (hs : a.eval s = v) (hx : a.eval x = .string y) (HO : Kd.R (Kd.int .u8) e W base (fun _ => True) v xs) (hbase : base ≤ W.heap.size) (hl : xs.length + y.size ≤ 140737488355328)
    (h : ∀ v1 w1, Kd.R (Kd.int .u8) e w1 base (fun _ => True) v1 (xs ++ bytesOf y) → W.grownBy w1 v.ownBlock → Kc (a.put o.dst v1) w1) : if Region.wanted o (yielded ops a.tmps) = true then Oper.wp P o a W Kc Q else Kc (a.put o.dst undef) W := by
  obtain ⟨v', w', hr, h2, h3⟩ := run_append_str (P := P) base t u o.type e ht hu hinfo v xs y HO hbase hl
  refine event_step hw (v := v') (w1 := w') ?_ (h v' w' h2 h3)
  unfold execOp
  simp only [ho, resolve, invoke, builtin, Sem.run_bind, Sem.run_pure, Result.andThen_ok, List.map_toArray, List.map_cons, List.map_nil, hs, hx, hr]
end

set_option maxHeartbeats 8000000 in
set_option maxRecDepth 100000 in
theorem wput_calls (base g : Nat) (v : Value) (xs ys : List Int) (n k : Int) (w : World) (hw : Writer w base g v xs) (hl : xs.length ≤ 1000000) (hy : ys.length ≤ 8) (h : bits_Put.f (IntKind.u64.wrap n) k = some ys) :
    Calls Try.prog 49 #[.pointer (some ⟨g, 0, none⟩), .int .i64 n, .int .i64 k] w fun e w' => e = .returned (.tuple #[]) ∧ ∃ v', Writer w' base g v' (xs ++ ys) ∧ Below base w w' ∧ Stays w w' g := by
  have hc := hw.cell
  have HW := Aside0.mk hw
  have HP := Aside0.mk h
  clear hw h
  go_enter Try.func49, Try.ntmps49
  go_region_law (first
    | (refine goes_ Try.func57 (by kernel_rfl) rfl #[.int .u64 (IntKind.u64.wrap n), .int .i64 k] (by rfl) rfl rfl (by first | rfl | (simp [Act.eval, Act.put]; done) | (simp [Act.eval]; done)) ?_
       refine (bits_Put.calls _ _ _ _ HP.out).mono ?_
       rintro e w1 ⟨v0, rfl, ho0, hb0⟩
       refine ⟨_, rfl, ?_⟩
       obtain ⟨A0, c0, rfl, hc0, hr0⟩ := Kd.R_reads ho0
       have hb1 : Below w.heap.size w w1 := (below_drew (Below.refl w.heap.size w)).trans hb0
       have HW1 := Aside0.mk (HW.out.below hb1)
       have hc1 := HW1.out.cell
       have HR0 := Aside0.mk hr0
       have HB0 := Aside0.mk hb1
       clear ho0 hb0 hb1 hr0)
    | (refine Kd.R_append_rows_step (Kd.int .u8) (w0 := w) base rfl (.tmp 10) (.tmp 14) 58 5 (.int .u8 0) 1 rfl Try.underlying58 info5 rfl (by decide) (by omega) v xs ys A0 _ c0 (fun _ => True) (fun _ => False) (by first | rfl | (simp [Act.eval]; done)) (by first | rfl | (simp [Act.eval]; done)) HW1.out.row HR0.out (fun x cs hx => hx) (fun _ hk => hk.elim) (fun _ _ => trivial) (HB0.out.mono (by have := HW.out.base_le; have := HW.out.lt; omega)) (by have := HW.out.base_le; have := HW1.out.lt; omega) (by omega) ?_
       intro v1 w2 ho hb hg hat
       obtain ⟨A1, c1, rfl⟩ := Kd.R_slice ho
       obtain ⟨hc2, hf2, hw2⟩ := HW1.out.stored hg ho
       have HW2 := Aside0.mk hw2
       have HB2 := Aside0.mk hb
       have HK2 := Aside0.mk (Stays.grown (g := g) HB0.out hg HW1.out.row)
       clear hw2 hb hg hat ho))
  all_goals
    go_end0
    have hh := HW2.out
    rw [List.length_append] at hh
    exact ⟨rfl, _, hh, HB2.out.setCell HW.out.base_le _, HK2.out.set _ _⟩
end Go.Proofs.Ytgjpbiogkjiliaa.Q
