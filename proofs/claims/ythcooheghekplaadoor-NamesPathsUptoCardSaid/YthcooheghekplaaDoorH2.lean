/- names.Split: any path's parts, or what it is refused with. -/
import Derived.Test.YthcooheghekplaaDoorH2c
namespace Go.Proofs.YthcooheghekplaaDoor.Cut
open Go.RowKit Go.Shelf Go.Proofs.YthcooheghekplaaDoorW.PrintWords
set_option linter.unusedVariables false
set_option linter.unusedSimpArgs false
set_option maxRecDepth 100000 in
set_option maxHeartbeats 4000000 in
theorem splitSeq_calls (path : ByteArray) (w : World) : Calls Tryd.prog 42 #[.string path, .string ⟨#[47]⟩, .int .i64 0] w fun e w' => e = .returned (.func (.func 51) #[] #[.pointer (some ⟨w.heap.size + 1, 0, none⟩), .pointer (some ⟨w.heap.size, 0, none⟩), .pointer (some ⟨w.heap.size + 1 + 1, 0, none⟩)]) ∧ w' = ((w.alloc (.cells #[.string path] 9)).alloc (.cells #[.string ⟨#[47]⟩] 9)).alloc (.cells #[.int .i64 0] 3) := by
  go_enter Tryd.func42, Tryd.ntmps42
  go_wp2
  go_ret
  exact ⟨by simp, rfl⟩
set_option maxRecDepth 100000 in
set_option maxHeartbeats 4000000 in
theorem seq_calls (path : ByteArray) (w : World) : Calls Tryd.prog 31 #[.string path, .string ⟨#[47]⟩] w fun e w' => e = .returned (.func (.func 51) #[] #[.pointer (some ⟨w.heap.size + 1, 0, none⟩), .pointer (some ⟨w.heap.size, 0, none⟩), .pointer (some ⟨w.heap.size + 1 + 1, 0, none⟩)]) ∧ w' = ((w.alloc (.cells #[.string path] 9)).alloc (.cells #[.string ⟨#[47]⟩] 9)).alloc (.cells #[.int .i64 0] 3) := by
  go_enter Tryd.func31, Tryd.ntmps31
  go_wp2_with (go_at_call 42; (with_reducible refine (splitSeq_calls path _).mono ?_); rintro e w' ⟨rfl, rfl⟩)
  go_ret
  exact ⟨rfl, rfl⟩
theorem start_st {w w1 : World} {path : ByteArray} {sl : Bool} {r : Nat} (hr : w.heap.size = r) (hd1 : Drawn0 ((w.alloc (.cells #[.slice none 0 0, .bool false] 24)).alloc (.cells #[.int .i64 0] 25)) w1) {W0 : World}
    (hW0 : W0 = (((w1.alloc (.cells #[.slice none 0 0, .bool sl] 24)).alloc (.cells #[.string path] 9)).alloc (.cells #[.string ⟨#[47]⟩] 9)).alloc (.cells #[.int .i64 0] 3)) :
    w1.heap.size = r + 2 ∧ W0.heap.size = r + 6 ∧ W0.heap[r + 3]? = some (.cells #[.string path] 9 (0, 0)) ∧ W0.heap[r + 4]? = some (.cells #[.string ⟨#[47]⟩] 9 (0, 0)) ∧ W0.heap[r + 5]? = some (.cells #[.int .i64 0] 3 (0, 0)) ∧ St w W0 r (r + 6) sl (.slice none 0 0) [] := by
  have hb1 : Below w.heap.size w w1 := ((Below.refl _ w).alloc (Nat.le_refl _) _ |>.alloc (by rw [World.size_alloc]; omega) _).trans (hd1.below.mono (by simp only [World.size_alloc]; omega))
  have z1 : w1.heap[r]? = some (.cells #[.slice none 0 0, .bool false] 24 (0, 0)) := by
    obtain ⟨m, rfl⟩ := hd1.out
    rw [← hr]
    exact blk_drewN (blk_alloc (blk_new w _) _) m
  have e1 : w1.heap[r + 1]? = some (.cells #[.int .i64 0] 25 (0, 0)) := by
    obtain ⟨m, rfl⟩ := hd1.out
    have := blk_new (w.alloc (.cells #[.slice none 0 0, .bool false] 24)) (.cells #[.int .i64 0] 25)
    rw [World.size_alloc, hr] at this
    exact blk_drewN this m
  have s1 : w1.heap.size = r + 2 := by
    obtain ⟨m, rfl⟩ := hd1.out
    show ((w.alloc _).alloc _).heap.size = _
    simp only [World.size_alloc]
    omega
  have p1 := blk_new w1 (.cells #[.slice none 0 0, .bool sl] 24)
  rw [s1] at p1
  have q1 := blk_new (w1.alloc (.cells #[.slice none 0 0, .bool sl] 24)) (.cells #[.string path] 9)
  rw [World.size_alloc, s1] at q1
  have q2 := blk_new ((w1.alloc (.cells #[.slice none 0 0, .bool sl] 24)).alloc (.cells #[.string path] 9)) (.cells #[.string ⟨#[47]⟩] 9)
  rw [World.size_alloc, World.size_alloc, s1] at q2
  have q3 := blk_new (((w1.alloc (.cells #[.slice none 0 0, .bool sl] 24)).alloc (.cells #[.string path] 9)).alloc (.cells #[.string ⟨#[47]⟩] 9)) (.cells #[.int .i64 0] 3)
  rw [World.size_alloc, World.size_alloc, World.size_alloc, s1] at q3
  subst hW0
  refine ⟨s1, by simp only [World.size_alloc]; omega, blk_alloc (blk_alloc q1 _) _, blk_alloc q2 _, q3, ?_, ?_, ?_, ?_, ?_, by simp only [World.size_alloc]; omega⟩
  · exact blk_alloc (blk_alloc (blk_alloc (blk_alloc z1 _) _) _) _
  · exact blk_alloc (blk_alloc (blk_alloc (blk_alloc e1 _) _) _) _
  · exact blk_alloc (blk_alloc (blk_alloc p1 _) _) _
  · exact World.ownsRow_nil _ _ _ _
  · have hsz := hb1.size
    refine Below.alloc (Below.alloc (Below.alloc (Below.alloc hb1 ?_ _) ?_ _) ?_ _) ?_ _ <;> (try simp only [World.size_alloc]) <;> omega
theorem cell2 {W : World} {b : Nat} {v u : Value} {t : TypeId} (h : W.heap[b]? = some (.cells #[v, u] t (0, 0))) : W.cell? ⟨b, 0, none⟩ = some v ∧ W.cell? ⟨b, 1, none⟩ = some u ∧ W.frozen? ⟨b, 0, none⟩ = false ∧ W.frozen? ⟨b, 1, none⟩ = false := by simp [World.cell?, World.frozen?, h]
theorem results_cc {W : World} {r : Nat} {v : Value} {b : Bool} {er : Int} (h0 : W.heap[r]? = some (.cells #[v, .bool b] 24 (0, 0))) (h1 : W.heap[r + 1]? = some (.cells #[.int .i64 er] 25 (0, 0))) (tmps : Array Value)
    (hp : tmps.getD 2 undef = .pointer (some ⟨r, 0, none⟩)) (hq : tmps.getD 3 undef = .pointer (some ⟨r + 1, 0, none⟩)) :
    (results Tryd.f10 tmps).run Tryd.prog W = .ok (.tuple #[.agg #[v, .bool b], .int .i64 er]) W := by
  have hp' : tmps[2]?.getD undef = .pointer (some ⟨r, 0, none⟩) := by simpa using hp
  have hq' : tmps[3]?.getD undef = .pointer (some ⟨r + 1, 0, none⟩) := by simpa using hq
  have hres : Tryd.f10.results = #[.cell 2 24, .cell 3 25] := rfl
  have hc := cell_at h1
  have hl : (loadVar 25 ⟨r + 1, 0, none⟩).run Tryd.prog W = .ok (.int .i64 er) W := by
    simp [loadVar, isAgg, underlying, Tryd.underlying25, hc, Result.andThen]
  have hi : (Tryd.prog.info? 24).map (·.size) = some (#[v, Value.bool b] : Array Value).size := by kernel_rfl
  simp [results, hres, hp', hq', asAddr, run_loadVar_row W r 24 24 #[v, .bool b] (0, 0) _ h0 Tryd.underlying24 rfl hi, hl]
theorem refused {w W : World} {r : Nat} {sl : Bool} {v : Value} {pre : List ByteArray} {x : ByteArray} (hS : St w W r (r + 6) sl v (col pre)) (hr : w.heap.size = r) (hx : x.size ≠ 0) (h : 24 < x.size ∨ (x.size ≤ 24 ∧ (col pre).length = 32)) {I : List ByteArray → World → Prop} {a : Act} :
    postC (r + 6) [r + 4, r + 3, r + 5] I (fun c pre W => c = Code.ret ∧ ¬ okl pre ∧ Sx w W r) (pre ++ [x]) W Exit.ret a (((W.setCell ⟨r, 0, none⟩ (.slice none 0 0)).setCell ⟨r, 1, none⟩ (.bool false)).setCell ⟨r + 1, 0, none⟩ (.int .i64 36)) := by
  refine ⟨(((KeepsOthers.setCell _ _ _).trans (KeepsOthers.setCell _ _ _)).trans (KeepsOthers.setCell _ _ _)).from _, rfl, ?_, ?_, ?_, ?_⟩
  · intro hok
    unfold okl at hok
    rw [col_snoc hx] at hok
    rcases h with h | ⟨_, h⟩
    · have := hok.1 x (List.mem_append.2 (.inr (List.mem_singleton.2 rfl))); omega
    · have := hok.2; rw [List.length_append, h, List.length_singleton] at this; omega
  · exact heap_set_ne (by omega) (blk_put (blk_put hS.zc 0 _ rfl) 1 _ rfl)
  · exact blk_put (blk_far (blk_far hS.ec (by show r + 1 ≠ r; omega) _) (by show r + 1 ≠ r; omega) _) 0 _ rfl
  · exact ((hS.below.setCell (by show w.heap.size ≤ r; omega) _).setCell (by show w.heap.size ≤ r; omega) _).setCell (by show w.heap.size ≤ r + 1; omega) _
attribute [local go_sem] Oper.semAt_some
def SplitPost (l : List ByteArray) (b : Bool) (er : Int) (w : World) (e : Ending) (w' : World) : Prop :=
  ∃ v0_ : Value, e = .returned (.tuple #[.agg #[v0_, .bool b], .int .i64 er]) ∧ w'.ownsRow w.heap.size 9 1 v0_ l.length (encs Value.string l) ∧ Below w.heap.size w w'
def SplitRes (path : ByteArray) (sl : Bool) (w : World) (e : Ending) (w' : World) : Prop :=
  (okl (pieces path) ∧ SplitPost (col (pieces path)) sl 0 w e w') ∨ (¬ okl (pieces path) ∧ SplitPost [] false 36 w e w')
set_option maxRecDepth 100000 in
set_option maxHeartbeats 4000000 in
theorem split_main (path : ByteArray) (w : World) (sl : Bool) (h1 : path.toList.isEmpty = false) (h2 : path.size ≤ 255) (h3 : Lib.indexByte path.data.toList 0 = -1) (hsl : Q.strings_HasSuffix.f path ⟨#[47]⟩ = some sl) :
    Calls Tryd.prog 10 #[.string path] w (SplitRes path sl w) := by
  have h4 : (path.size : Int) ≤ 255 := by omega
  refine (callsIn_wide (n := 4)).1 ?_
  refine callsIn_of_wp_marks Tryd.func10 rfl trivial ?_ rfl
  simp only [Tryd.ntmps10, List.size_toArray, List.length_cons, List.length_nil, Nat.reduceAdd, Nat.reduceSub, Array.replicate_succ, Array.replicate_zero, List.push_toArray, List.append_toArray, List.nil_append, List.cons_append]
  gi_wp2_with (first | (refine ⟨trivial, ?_⟩; gi_at_call 29; refine (callsIn_wide.2 (Any.strings_Contains_one Tryd.laysContains path 0 _)).mono ?_; rintro e w' ⟨rfl, rfl⟩) | (gi_at_call 29; refine (callsIn_wide.2 (Any.strings_Contains_one Tryd.laysContains path 0 _)).mono ?_; rintro e w' ⟨rfl, rfl⟩) | (refine ⟨trivial, ?_⟩; gi_at_call 30; refine (callsIn_wide.2 (Q.strings_HasSuffix.calls path _ sl _ hsl)).mono ?_; rintro e w1 ⟨rfl, hd1⟩) | (gi_at_call 30; refine (callsIn_wide.2 (Q.strings_HasSuffix.calls path _ sl _ hsl)).mono ?_; rintro e w1 ⟨rfl, hd1⟩) | (refine ⟨trivial, ?_⟩; gi_at_call 31; refine (callsIn_wide.2 (seq_calls path _)).mono ?_; rintro e w' ⟨rfl, rfl⟩) | (gi_at_call 31; refine (callsIn_wide.2 (seq_calls path _)).mono ?_; rintro e w' ⟨rfl, rfl⟩))
  obtain ⟨r, hr⟩ : ∃ r, w.heap.size = r := ⟨_, rfl⟩
  rw [hr]
  obtain ⟨W0, hW0⟩ : ∃ W0, W0 = (((w1.alloc (.cells #[.slice none 0 0, .bool sl] 24)).alloc (.cells #[.string path] 9)).alloc (.cells #[.string ⟨#[47]⟩] 9)).alloc (.cells #[.int .i64 0] 3) := ⟨_, rfl⟩
  rw [← hW0]
  obtain ⟨s1, s0, k3, k4, k5, hS0⟩ := start_st hr hd1 hW0
  simp only [s1, Nat.add_assoc, Nat.reduceAdd]
  clear hW0 hd1 s1 h1
  obtain ⟨i0, hi, hz0, hz1, hz2⟩ := info_parts Q.info9
  have hrB : w.heap.size ≤ r + 6 := by omega
  refine range_cut rfl (by omega) (gf := 51) (lb := #[.pointer (some ⟨r + 4, 0, none⟩), .pointer (some ⟨r + 3, 0, none⟩), .pointer (some ⟨r + 5, 0, none⟩)]) rfl trivial (enters_of Tryd.func51 (by kernel_rfl) rfl) (encs := fun x : ByteArray => #[Value.string x])
    (bs := [r + 4, r + 3, r + 5]) (S := fun xs => xs = pieces path) (Sp := fun pre => pre <+: pieces path) (N := (pieces path).length) (b := some (r + 3)) ?hbs (fun k e => by cases e; omega) (w0 := W0) ?seq (Below.refl _ _) (fun _ => rfl)
    (fun pre W => okl pre ∧ ∃ v, St w W r (r + 6) sl v (col pre)) (fun c pre W => c = .ret ∧ ¬ okl pre ∧ Sx w W r) ?hI ?hIx ?hJ ?hJx ?h0 (fun x => { tmps := #[.string path, undef, .pointer (some ⟨r, 0, none⟩), .pointer (some ⟨r + 1, 0, none⟩), .pointer (some ⟨r + 2, 0, none⟩), .string x, .bool false, .string path, .bool false, undef, .bool (decide (255 < (path.size : Int))), .string path, .int .i64 (path.size : Int), .bool (decide (255 < (path.size : Int))), undef, .bool false, .string path, .bool false, undef, .string path, .bool sl, .agg #[.slice none 0 0, .bool sl], .string path, .func (.func 51) #[] #[.pointer (some ⟨r + 4, 0, none⟩), .pointer (some ⟨r + 3, 0, none⟩), .pointer (some ⟨r + 5, 0, none⟩)], .string x, undef, undef, undef, undef, undef, undef, undef, undef, undef, undef, undef, undef, undef, undef, undef, undef, undef, undef, undef], defers := [] }) ?assign ?body ?done ?stop
  case hbs => intro k hk; simp only [List.mem_cons, List.not_mem_nil, or_false] at hk; omega
  case seq =>
    intro l J Jx W hW hJ hJx hY hj0
    exact iter _ (by omega) l (r + 4) (r + 3) (r + 5) path h2 (by omega) (by omega) J Jx (hJ _ rfl) hY W ((hW.block _ (by omega)).trans k4) ((hW.block _ (by omega)).trans k3) ((hW.block _ (by omega)).trans k5) hj0
  case hI =>
    rintro s A A' row ⟨h1, v, hS⟩ hg hrow
    exact ⟨h1, v, hS.abides hrB hg (fun q e => by have := hrow q e; rw [s0] at this; exact this)⟩
  case hIx =>
    rintro c s A A' row ⟨h1, h2, hS⟩ hg hrow
    exact ⟨h1, h2, hS.abides hrB hg (fun q e => by have := hrow q e; rw [s0] at this; exact this)⟩
  case hJ =>
    rintro k hk s A v ⟨h1, v', hS⟩
    cases hk
    exact ⟨h1, v', hS.cell hr (by omega) v⟩
  case hJx =>
    rintro k hk c s A v ⟨h1, h2, hS⟩
    cases hk
    exact ⟨h1, h2, hS.cell hr v⟩
  case h0 => exact ⟨by decide, _, hS0⟩
  case assign =>
    intro l x W K hK
    gi_wp2
    exact hK
  case body =>
    rintro l pre x W ⟨hok, v, hS⟩ hlen
    clear hlen
    rw [s0]
    obtain ⟨A, c, rfl, hcap⟩ := hS.slice
    obtain ⟨c20, c21, f20, f21⟩ := cell2 hS.pc
    obtain ⟨c00, c01, f00, f01⟩ := cell2 hS.zc
    have c10 := cell_at hS.ec
    have f10 := froz_at hS.ec
    obtain ⟨k, hk⟩ : ∃ k, (col pre).length = k := ⟨_, rfl⟩
    have hk32 : k ≤ 32 := hk ▸ hok.2
    rw [hk] at c20 hcap
    have hWs := hS.size
    by_cases hx0 : x.size = 0
    · have hxe : x.toList.isEmpty = true := by rw [ByteArray.toList_eq, List.isEmpty_iff_length_eq_zero, Array.length_toList]; exact hx0
      gi_wp2
      have e := col_skip (l := pre) hx0
      exact ⟨KeepsFrom.refl _ _, fun _ _ => rfl, by unfold okl; rw [e]; exact hok, _, by rw [e]; exact hS⟩
    · have hxe : x.toList.isEmpty = false := by rw [← Bool.not_eq_true, ByteArray.toList_eq, List.isEmpty_iff_length_eq_zero, Array.length_toList]; exact hx0
      by_cases h24 : x.size ≤ 24
      · have h24i : (x.size : Int) ≤ 24 := by omega
        by_cases h32 : k = 32
        · subst h32
          gi_wp2
          exact refused hS hr hx0 (.inr ⟨h24, hk⟩)
        · have h32i : ((k : Int) == 32) = false := beq_eq_false_iff_ne.mpr (by omega)
          have h32n : ¬ ((k : Int) = 32) := by omega
          have hrow := hS.row
          rw [hk] at hrow
          gi_wp2_with (gi_at_builtin; go_loud (refine wpListIn_append_own _ rfl (.tmp 38) (.tmp 40) 22 rfl (r + 6) 9 i0 (.string ⟨#[]⟩) 1 16 Tryd.underlying22 hi hz0 hz1 hz2 rfl (by decide) (.slice A k c) k (encs Value.string (col pre)) rfl (hrow.alloc _) ⟨W.heap.size, 0, none⟩ 1 1 [.string x] rfl rfl (cell_one_new _ _ _) (by simp [Value.oneCell']) (by simp [maxLen]; omega) (by omega) (by rw [World.size_alloc]; omega) ?_); intro v1 w1 hown hg hnil; obtain ⟨g1, cap1, rfl⟩ := ownsRow_succ hown; go_loud (have hst := hS.step (x := x) hr (by omega) (by rw [hk]; exact hown) (by rw [hk]; exact hg)); go_loud (have hp1 := cell_grown hS.pc hown hg (fun g e => by have := (row_block hrow e).1; omega)); obtain ⟨d20, d21, t20, t21⟩ := cell2 hp1)
          exact ⟨hst.1, hst.2.1, by unfold okl; rw [col_snoc hx0]; exact ⟨fun y hy => by rcases List.mem_append.1 hy with hy | hy; exact hok.1 y hy; (simp only [List.mem_singleton] at hy; rw [hy]; exact h24), by rw [List.length_append]; simp; omega⟩, _, by rw [col_snoc hx0]; exact hst.2.2⟩
      · have h24i : (24 : Int) < (x.size : Int) := by omega
        gi_wp2
        exact refused hS hr hx0 (.inl (by omega))
  case done =>
    rintro D xs W hD rfl ⟨hok, v, hS⟩ hK
    obtain ⟨A, c, rfl, hcap⟩ := hS.slice
    obtain ⟨c20, c21, f20, f21⟩ := cell2 hS.pc
    obtain ⟨c00, c01, f00, f01⟩ := cell2 hS.zc
    have c10 := cell_at hS.ec
    have f10 := froz_at hS.ec
    gi_wp2
    have hKs : ∀ (W' : World) (p : Addr) (u : Value), p.block < D → W'.heap[D]? = some (.deferred (some [])) → (W'.setCell p u).heap[D]? = some (.deferred (some [])) := fun W' p u hp h => (Below.heap_setCell _ _ _ _ (by omega)).trans h
    have hK' := hKs _ ⟨r + 1, 0, none⟩ (.int .i64 0) (by show r + 1 < D; omega) (hKs _ ⟨r, 1, none⟩ (.bool sl) (by show r < D; omega) (hKs _ ⟨r, 0, none⟩ (.slice A (col (pieces path)).length c) (by show r < D; omega) hK))
    refine ⟨by simp, .inl ⟨_, _, rfl, run_takeDeferred hK', ?_⟩⟩
    have g0 := (heap_put_ne (l := D) (b := r) (o := .deferred none) (by omega)).trans (heap_set_ne (b := r + 1) (v := .int .i64 0) (by omega) (blk_put (blk_put hS.zc 0 (.slice A (col (pieces path)).length c) rfl) 1 (.bool sl) rfl))
    have g1 := (heap_put_ne (l := D) (b := r + 1) (o := .deferred none) (by omega)).trans (blk_put (blk_far (blk_far hS.ec (p := ⟨r, 0, none⟩) (by show r + 1 ≠ r; omega) (.slice A (col (pieces path)).length c)) (p := ⟨r, 1, none⟩) (by show r + 1 ≠ r; omega) (.bool sl)) 0 (.int .i64 0) rfl)
    refine ⟨_, results_cc g0 g1 _ rfl rfl, .inl ⟨hok, _, rfl, ?_, ?_⟩⟩
    · exact row_base (ownsRow_putObj (ownsRow_setCell_below (ownsRow_setCell_below (ownsRow_setCell_below hS.row (by show r < r + 6; omega) _) (by show r < r + 6; omega) _) (by show r + 1 < r + 6; omega) _) _ hK' rfl) (by omega)
    · exact (((hS.below.setCell (by show w.heap.size ≤ r; omega) _).setCell (by show w.heap.size ≤ r; omega) _).setCell (by show w.heap.size ≤ r + 1; omega) _).trans (belowK_b (w := w) (Nat.le_refl _) _ D _ _ (by omega) hK' rfl rfl)
  case stop =>
    rintro D c pre W hD hpre ⟨rfl, hno, hS⟩ hK
    gi_wp2
    refine ⟨by simp, .inl ⟨_, _, rfl, run_takeDeferred hK, ?_⟩⟩
    have g0 := (heap_put_ne (l := D) (b := r) (o := .deferred none) (by omega)).trans hS.zc
    have g1 := (heap_put_ne (l := D) (b := r + 1) (o := .deferred none) (by omega)).trans hS.ec
    refine ⟨_, results_cc g0 g1 _ rfl rfl, .inr ⟨fun h => hno (okl_pre hpre h), _, rfl, World.ownsRow_nil _ _ _ _, ?_⟩⟩
    exact hS.below.trans (belowK_b (w := w) (Nat.le_refl _) _ D _ _ (by omega) hK rfl rfl)
end Go.Proofs.YthcooheghekplaaDoor.Cut
namespace Go.Proofs.YthcooheghekplaaDoor.Q
open Go.RowKit Go.Shelf Go.Proofs.YthcooheghekplaaDoorW.PrintWords Go.Proofs.YthcooheghekplaaDoor.Cut
def names_Split.f (a0 : ByteArray) : Option (List ByteArray × Bool × Int) :=
  if a0.size = 0 then some ([], false, 2) else if 255 < a0.size then some ([], false, 36) else if 0 ≤ Lib.indexByte a0.data.toList 0 then some ([], false, 22)
  else (strings_HasSuffix.f a0 ⟨#[47]⟩).bind fun sl => if okl (pieces a0) then some (col (pieces a0), sl, 0) else some ([], false, 36)
theorem early (w : World) (er : Int) {tmps : Array Value} (hp : tmps.getD 2 undef = .pointer (some ⟨w.heap.size, 0, none⟩) := by rfl) (hq : tmps.getD 3 undef = .pointer (some ⟨w.heap.size + 1, 0, none⟩) := by rfl) : bodyPostM Fence.wide 4 Tryd.prog Tryd.f10 (SplitPost [] false er w) Exit.ret { tmps := tmps, defers := [] } ((w.alloc (.cells #[.slice none 0 0, .bool false] 24)).alloc (.cells #[.int .i64 er] 25)) := by
  have h1 := blk_new (w.alloc (.cells #[.slice none 0 0, .bool false] 24)) (.cells #[.int .i64 er] 25)
  rw [World.size_alloc] at h1
  exact ⟨_, results_cc (blk_alloc (blk_new w _) _) h1 tmps hp hq, _, rfl, World.ownsRow_nil _ _ _ _, ((Below.refl _ w).alloc (Nat.le_refl _) _).alloc (by rw [World.size_alloc]; omega) _⟩
set_option maxRecDepth 100000 in
set_option maxHeartbeats 4000000 in
theorem split_early (path : ByteArray) (w : World) (er : Int) (h : (path.size = 0 ∧ er = 2) ∨ (path.size ≠ 0 ∧ 255 < path.size ∧ er = 36) ∨ (path.size ≠ 0 ∧ path.size ≤ 255 ∧ 0 ≤ Lib.indexByte path.data.toList 0 ∧ er = 22)) :
    Calls Tryd.prog 10 #[.string path] w (SplitPost [] false er w) := by
  have he : path.toList.isEmpty = decide (path.size = 0) := by
    rw [ByteArray.toList_eq, ← Bool.coe_iff_coe, List.isEmpty_iff_length_eq_zero, Array.length_toList, decide_eq_true_iff]; rfl
  refine (callsIn_wide (n := 4)).1 ?_
  refine callsIn_of_wp_marks Tryd.func10 rfl trivial ?_ rfl
  simp only [Tryd.ntmps10, List.size_toArray, List.length_cons, List.length_nil, Nat.reduceAdd, Nat.reduceSub, Array.replicate_succ, Array.replicate_zero, List.push_toArray, List.append_toArray, List.nil_append, List.cons_append]
  rcases h with ⟨h1, rfl⟩ | ⟨h1, h2, rfl⟩ | ⟨h1, h2, h3, rfl⟩
  · rw [decide_eq_true h1] at he
    gi_wp2
    exact early w _
  · rw [decide_eq_false h1] at he
    have h2i : (255 : Int) < (path.size : Int) := by omega
    gi_wp2
    exact early w _
  · rw [decide_eq_false h1] at he
    have h2i : (path.size : Int) ≤ 255 := by omega
    gi_wp2_with (first | (refine ⟨trivial, ?_⟩; gi_at_call 29; refine (callsIn_wide.2 (Any.strings_Contains_one Tryd.laysContains path 0 _)).mono ?_; rintro e w' ⟨rfl, rfl⟩) | (gi_at_call 29; refine (callsIn_wide.2 (Any.strings_Contains_one Tryd.laysContains path 0 _)).mono ?_; rintro e w' ⟨rfl, rfl⟩))
    exact early w _
theorem names_Split.calls (a0 : ByteArray) (r1 : List ByteArray) (r2 : Bool) (r3 : Int) (w : World) (h : names_Split.f a0 = some (r1, r2, r3)) :
    Calls Tryd.prog 10 #[.string a0] w fun e w' => ∃ v0_ : Value, e = .returned (.tuple #[.agg #[v0_, .bool r2], .int .i64 r3]) ∧ Kd.R Kd.string 9 w' w.heap.size (fun _ => True) v0_ r1 ∧ Below w.heap.size w w' := by
  have hpost : ∀ e w', SplitPost r1 r2 r3 w e w' → ∃ v0_ : Value, e = .returned (.tuple #[.agg #[v0_, .bool r2], .int .i64 r3]) ∧ Kd.R Kd.string 9 w' w.heap.size (fun _ => True) v0_ r1 ∧ Below w.heap.size w w' := by
    rintro e w' ⟨v, he, ho, hb⟩
    exact ⟨v, he, Kd.R_of_own ho (fun _ _ => trivial), hb⟩
  unfold names_Split.f at h
  split at h
  · cases h
    exact (split_early a0 w 2 (.inl ⟨by assumption, rfl⟩)).mono hpost
  · split at h
    · cases h
      exact (split_early a0 w 36 (.inr (.inl ⟨by assumption, by assumption, rfl⟩))).mono hpost
    · split at h
      · cases h
        exact (split_early a0 w 22 (.inr (.inr ⟨by assumption, by omega, by assumption, rfl⟩))).mono hpost
      · rename_i n1 n2 n3
        obtain ⟨sl, hsl, h⟩ := Option.bind_eq_some_iff.1 h
        have hg := Lib.indexByte_ge a0.data.toList 0
        refine (split_main a0 w sl ?_ (by omega) (by omega) hsl).mono ?_
        · rw [← Bool.not_eq_true, ByteArray.toList_eq, List.isEmpty_iff_length_eq_zero, Array.length_toList]; exact n1
        · rintro e w' (⟨hok, hp⟩ | ⟨hno, hp⟩)
          · rw [if_pos hok] at h
            cases h
            exact hpost e w' hp
          · rw [if_neg hno] at h
            cases h
            exact hpost e w' hp
end Go.Proofs.YthcooheghekplaaDoor.Q
