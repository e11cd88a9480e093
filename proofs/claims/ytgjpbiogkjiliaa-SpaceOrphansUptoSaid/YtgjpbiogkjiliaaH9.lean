/- node.Entry. -/
import Derived.Test.YtgjpbiogkjiliaaQ8
import Derived.Test.YtgjpbiogkjiliaaN7
import Derived.Test.YtgjpbiogkjiliaaN1
namespace Go.Proofs.Ytgjpbiogkjiliaa.Q
open Go.RowKit Go.Proofs.YtgjpbiogkjiliaaW.PrintWords Go.Proofs.YtgjpbiogkjiliaaW.PrintLast Go.Proofs.YtgjpbiogkjiliaaW.PrintMore
set_option linter.unusedVariables false
set_option linter.unusedSimpArgs false

def goodIno_ (a : Int) : Bool := decide (1 ≤ a) && decide (a ≤ 4096)
def goodKind_ (a : Int) : Bool := decide (1 ≤ a) && decide (a ≤ 3)
def node_Entry.f (a0 : Int) (n : ByteArray) (i kd : Int) : Option (ByteArray × ByteArray × Bool × Int) :=
  (names_Right.f n).bind fun e => if (goodIno_ a0 && (e == 0) && goodIno_ i && goodKind_ kd) = true then (node_EntryKey.f a0 n).bind fun k => some (k, strOfNums (leBytes i 2 ++ leBytes kd 1), false, 0) else some (⟨#[]⟩, ⟨#[]⟩, false, 22)

set_option maxHeartbeats 8000000 in
set_option maxRecDepth 100000 in
theorem entry_no0 (a0 : Int) (n : ByteArray) (i kd rr : Int) (w : World) (h0 : goodIno_ a0 = false) : Calls Try.prog 34 #[.int .i64 a0, .agg #[.string n, .int .i64 i, .int .i64 kd]] w fun e w' => e = .returned (.tuple #[.agg #[.string ⟨#[]⟩, .string ⟨#[]⟩, .bool false], .int .i64 22]) ∧ Below w.heap.size w w' := by
  have hu59 := Try.underlying45
  have hu32 := Try.underlying37
  have G0 := Aside0.mk (goodIno_f a0 _ h0)
  go_enter Try.func34, Try.ntmps34
  go_wp2_with (first
    | (go_at_call 46; (with_reducible refine (node_goodIno.calls a0 false _ G0.out).mono ?_); rintro e w' ⟨rfl, ⟨nd0, rfl⟩⟩))
  have hr0 : Blk ((w.alloc (.cells #[.string n, .int .i64 i, .int .i64 kd] 45)).alloc (.cells #[.string ⟨#[]⟩, .string ⟨#[]⟩, .bool false] 37)) (w.heap.size + 1) #[.string ⟨#[]⟩, .string ⟨#[]⟩, .bool false] 37 := by simpa using Blk.fresh (w.alloc (.cells #[.string n, .int .i64 i, .int .i64 kd] 45)) #[.string ⟨#[]⟩, .string ⟨#[]⟩, .bool false] 37
  have hb0 : Below w.heap.size w ((w.alloc (.cells #[.string n, .int .i64 i, .int .i64 kd] 45)).alloc (.cells #[.string ⟨#[]⟩, .string ⟨#[]⟩, .bool false] 37)) := below_alloc (below_alloc (Below.refl _ _) _) _
  refine bodyPost_ret (results_ct rfl _ _ (w.heap.size + 1) 37 #[.string ⟨#[]⟩, .string ⟨#[]⟩, .bool false] (0, 0) _ rfl (stored (w := w) (b := w.heap.size + 1) (by exact hr0) (by repeat (first | exact hb0 | apply pw_below_drewN | apply below_drew1)) (Nat.le_succ _) _ _).1 Try.underlying37 rfl (by kernel_rfl)) rfl ?_
  exact ⟨rfl, (stored (w := w) (b := w.heap.size + 1) (by exact hr0) (by repeat (first | exact hb0 | apply pw_below_drewN | apply below_drew1)) (Nat.le_succ _) _ _).2⟩
set_option maxHeartbeats 8000000 in
set_option maxRecDepth 100000 in
theorem entry_no1 (a0 : Int) (n : ByteArray) (i kd rr : Int) (w : World) (h0 : goodIno_ a0 = true) (h1 : names_Right.f n = some rr) (hr : rr ≠ 0) : Calls Try.prog 34 #[.int .i64 a0, .agg #[.string n, .int .i64 i, .int .i64 kd]] w fun e w' => e = .returned (.tuple #[.agg #[.string ⟨#[]⟩, .string ⟨#[]⟩, .bool false], .int .i64 22]) ∧ Below w.heap.size w w' := by
  have hu59 := Try.underlying45
  have hu32 := Try.underlying37
  have G0 := Aside0.mk (goodIno_f a0 _ h0)
  have G1 := Aside0.mk h1
  have hz : (rr != 0) = true := bne_iff_ne.2 hr
  have hz2 : ¬ rr = 0 := hr
  go_enter Try.func34, Try.ntmps34
  go_wp2_with (first
    | (go_at_call 46; (with_reducible refine (node_goodIno.calls a0 true _ G0.out).mono ?_); rintro e w' ⟨rfl, ⟨nd0, rfl⟩⟩)
    | (go_at_call 47; (with_reducible refine (names_Right.calls n rr _ G1.out).mono ?_); rintro e w1 ⟨rfl, hb1d⟩
       have hb1 := (pw_below_drewN (Below.refl ((w.alloc (.cells #[.string n, .int .i64 i, .int .i64 kd] 45)).alloc (.cells #[.string ⟨#[]⟩, .string ⟨#[]⟩, .bool false] 37)).heap.size ((w.alloc (.cells #[.string n, .int .i64 i, .int .i64 kd] 45)).alloc (.cells #[.string ⟨#[]⟩, .string ⟨#[]⟩, .bool false] 37))) nd0).trans hb1d
       clear hb1d
       have HP1 := Aside0.mk (show Blk w1 w.heap.size #[.string n, .int .i64 i, .int .i64 kd] 45 from Blk.below (w := ((w.alloc (.cells #[.string n, .int .i64 i, .int .i64 kd] 45)).alloc (.cells #[.string ⟨#[]⟩, .string ⟨#[]⟩, .bool false] 37))) ((Blk.fresh w #[.string n, .int .i64 i, .int .i64 kd] 45).alloc _) hb1 (by simp; omega))
       have HR1 := Aside0.mk (show Blk w1 (w.heap.size + 1) #[.string ⟨#[]⟩, .string ⟨#[]⟩, .bool false] 37 by
         refine Blk.below (w := ((w.alloc (.cells #[.string n, .int .i64 i, .int .i64 kd] 45)).alloc (.cells #[.string ⟨#[]⟩, .string ⟨#[]⟩, .bool false] 37))) ?_ hb1 (by simp)
         simpa using Blk.fresh (w.alloc (.cells #[.string n, .int .i64 i, .int .i64 kd] 45)) #[.string ⟨#[]⟩, .string ⟨#[]⟩, .bool false] 37)
       have HB1 := Aside0.mk ((below_alloc (below_alloc (Below.refl w.heap.size w) (.cells #[.string n, .int .i64 i, .int .i64 kd] 45)) (.cells #[.string ⟨#[]⟩, .string ⟨#[]⟩, .bool false] 37)).trans (hb1.mono (by simp; omega)))
       have p0 := HP1.out.cell 0 _ rfl; have p1 := HP1.out.cell 1 _ rfl; have p2 := HP1.out.cell 2 _ rfl
       have c0 := HR1.out.cell 0 _ rfl; have c1 := HR1.out.cell 1 _ rfl; have c2 := HR1.out.cell 2 _ rfl
       have f0 := HR1.out.frozen 0; have f1 := HR1.out.frozen 1; have f2 := HR1.out.frozen 2
       clear hb1))
  refine bodyPost_ret (results_ct rfl _ _ (w.heap.size + 1) 37 #[.string ⟨#[]⟩, .string ⟨#[]⟩, .bool false] (0, 0) _ rfl (stored (w := w) (b := w.heap.size + 1) (by exact HR1.out) (by repeat (first | exact HB1.out | apply pw_below_drewN | apply below_drew1)) (Nat.le_succ _) _ _).1 Try.underlying37 rfl (by kernel_rfl)) rfl ?_
  exact ⟨rfl, (stored (w := w) (b := w.heap.size + 1) (by exact HR1.out) (by repeat (first | exact HB1.out | apply pw_below_drewN | apply below_drew1)) (Nat.le_succ _) _ _).2⟩
set_option maxHeartbeats 8000000 in
set_option maxRecDepth 100000 in
theorem entry_no2 (a0 : Int) (n : ByteArray) (i kd rr : Int) (w : World) (h0 : goodIno_ a0 = true) (h1 : names_Right.f n = some rr) (hr : rr = 0) (h2 : goodIno_ i = false) : Calls Try.prog 34 #[.int .i64 a0, .agg #[.string n, .int .i64 i, .int .i64 kd]] w fun e w' => e = .returned (.tuple #[.agg #[.string ⟨#[]⟩, .string ⟨#[]⟩, .bool false], .int .i64 22]) ∧ Below w.heap.size w w' := by
  have hu59 := Try.underlying45
  have hu32 := Try.underlying37
  have G0 := Aside0.mk (goodIno_f a0 _ h0)
  have G1 := Aside0.mk h1
  subst hr
  have G2 := Aside0.mk (goodIno_f i _ h2)
  go_enter Try.func34, Try.ntmps34
  go_wp2_with (first
    | (go_at_call 46; (with_reducible refine (node_goodIno.calls a0 true _ G0.out).mono ?_); rintro e w' ⟨rfl, ⟨nd0, rfl⟩⟩)
    | (go_at_call 47; (with_reducible refine (names_Right.calls n 0 _ G1.out).mono ?_); rintro e w1 ⟨rfl, hb1d⟩
       have hb1 := (pw_below_drewN (Below.refl ((w.alloc (.cells #[.string n, .int .i64 i, .int .i64 kd] 45)).alloc (.cells #[.string ⟨#[]⟩, .string ⟨#[]⟩, .bool false] 37)).heap.size ((w.alloc (.cells #[.string n, .int .i64 i, .int .i64 kd] 45)).alloc (.cells #[.string ⟨#[]⟩, .string ⟨#[]⟩, .bool false] 37))) nd0).trans hb1d
       clear hb1d
       have HP1 := Aside0.mk (show Blk w1 w.heap.size #[.string n, .int .i64 i, .int .i64 kd] 45 from Blk.below (w := ((w.alloc (.cells #[.string n, .int .i64 i, .int .i64 kd] 45)).alloc (.cells #[.string ⟨#[]⟩, .string ⟨#[]⟩, .bool false] 37))) ((Blk.fresh w #[.string n, .int .i64 i, .int .i64 kd] 45).alloc _) hb1 (by simp; omega))
       have HR1 := Aside0.mk (show Blk w1 (w.heap.size + 1) #[.string ⟨#[]⟩, .string ⟨#[]⟩, .bool false] 37 by
         refine Blk.below (w := ((w.alloc (.cells #[.string n, .int .i64 i, .int .i64 kd] 45)).alloc (.cells #[.string ⟨#[]⟩, .string ⟨#[]⟩, .bool false] 37))) ?_ hb1 (by simp)
         simpa using Blk.fresh (w.alloc (.cells #[.string n, .int .i64 i, .int .i64 kd] 45)) #[.string ⟨#[]⟩, .string ⟨#[]⟩, .bool false] 37)
       have HB1 := Aside0.mk ((below_alloc (below_alloc (Below.refl w.heap.size w) (.cells #[.string n, .int .i64 i, .int .i64 kd] 45)) (.cells #[.string ⟨#[]⟩, .string ⟨#[]⟩, .bool false] 37)).trans (hb1.mono (by simp; omega)))
       have p0 := HP1.out.cell 0 _ rfl; have p1 := HP1.out.cell 1 _ rfl; have p2 := HP1.out.cell 2 _ rfl
       have c0 := HR1.out.cell 0 _ rfl; have c1 := HR1.out.cell 1 _ rfl; have c2 := HR1.out.cell 2 _ rfl
       have f0 := HR1.out.frozen 0; have f1 := HR1.out.frozen 1; have f2 := HR1.out.frozen 2
       clear hb1)
    | (go_at_call 46; (with_reducible refine (node_goodIno.calls i false _ G2.out).mono ?_); rintro e w' ⟨rfl, ⟨nd2, rfl⟩⟩))
  refine bodyPost_ret (results_ct rfl _ _ (w.heap.size + 1) 37 #[.string ⟨#[]⟩, .string ⟨#[]⟩, .bool false] (0, 0) _ rfl (stored (w := w) (b := w.heap.size + 1) (by exact HR1.out) (by repeat (first | exact HB1.out | apply pw_below_drewN | apply below_drew1)) (Nat.le_succ _) _ _).1 Try.underlying37 rfl (by kernel_rfl)) rfl ?_
  exact ⟨rfl, (stored (w := w) (b := w.heap.size + 1) (by exact HR1.out) (by repeat (first | exact HB1.out | apply pw_below_drewN | apply below_drew1)) (Nat.le_succ _) _ _).2⟩
set_option maxHeartbeats 8000000 in
set_option maxRecDepth 100000 in
theorem entry_no3 (a0 : Int) (n : ByteArray) (i kd rr : Int) (w : World) (h0 : goodIno_ a0 = true) (h1 : names_Right.f n = some rr) (hr : rr = 0) (h2 : goodIno_ i = true) (h3 : goodKind_ kd = false) : Calls Try.prog 34 #[.int .i64 a0, .agg #[.string n, .int .i64 i, .int .i64 kd]] w fun e w' => e = .returned (.tuple #[.agg #[.string ⟨#[]⟩, .string ⟨#[]⟩, .bool false], .int .i64 22]) ∧ Below w.heap.size w w' := by
  have hu59 := Try.underlying45
  have hu32 := Try.underlying37
  have G0 := Aside0.mk (goodIno_f a0 _ h0)
  have G1 := Aside0.mk h1
  subst hr
  have G2 := Aside0.mk (goodIno_f i _ h2)
  have G3 := Aside0.mk (goodKind_f kd _ h3)
  go_enter Try.func34, Try.ntmps34
  go_wp2_with (first
    | (go_at_call 46; (with_reducible refine (node_goodIno.calls a0 true _ G0.out).mono ?_); rintro e w' ⟨rfl, ⟨nd0, rfl⟩⟩)
    | (go_at_call 47; (with_reducible refine (names_Right.calls n 0 _ G1.out).mono ?_); rintro e w1 ⟨rfl, hb1d⟩
       have hb1 := (pw_below_drewN (Below.refl ((w.alloc (.cells #[.string n, .int .i64 i, .int .i64 kd] 45)).alloc (.cells #[.string ⟨#[]⟩, .string ⟨#[]⟩, .bool false] 37)).heap.size ((w.alloc (.cells #[.string n, .int .i64 i, .int .i64 kd] 45)).alloc (.cells #[.string ⟨#[]⟩, .string ⟨#[]⟩, .bool false] 37))) nd0).trans hb1d
       clear hb1d
       have HP1 := Aside0.mk (show Blk w1 w.heap.size #[.string n, .int .i64 i, .int .i64 kd] 45 from Blk.below (w := ((w.alloc (.cells #[.string n, .int .i64 i, .int .i64 kd] 45)).alloc (.cells #[.string ⟨#[]⟩, .string ⟨#[]⟩, .bool false] 37))) ((Blk.fresh w #[.string n, .int .i64 i, .int .i64 kd] 45).alloc _) hb1 (by simp; omega))
       have HR1 := Aside0.mk (show Blk w1 (w.heap.size + 1) #[.string ⟨#[]⟩, .string ⟨#[]⟩, .bool false] 37 by
         refine Blk.below (w := ((w.alloc (.cells #[.string n, .int .i64 i, .int .i64 kd] 45)).alloc (.cells #[.string ⟨#[]⟩, .string ⟨#[]⟩, .bool false] 37))) ?_ hb1 (by simp)
         simpa using Blk.fresh (w.alloc (.cells #[.string n, .int .i64 i, .int .i64 kd] 45)) #[.string ⟨#[]⟩, .string ⟨#[]⟩, .bool false] 37)
       have HB1 := Aside0.mk ((below_alloc (below_alloc (Below.refl w.heap.size w) (.cells #[.string n, .int .i64 i, .int .i64 kd] 45)) (.cells #[.string ⟨#[]⟩, .string ⟨#[]⟩, .bool false] 37)).trans (hb1.mono (by simp; omega)))
       have p0 := HP1.out.cell 0 _ rfl; have p1 := HP1.out.cell 1 _ rfl; have p2 := HP1.out.cell 2 _ rfl
       have c0 := HR1.out.cell 0 _ rfl; have c1 := HR1.out.cell 1 _ rfl; have c2 := HR1.out.cell 2 _ rfl
       have f0 := HR1.out.frozen 0; have f1 := HR1.out.frozen 1; have f2 := HR1.out.frozen 2
       clear hb1)
    | (go_at_call 46; (with_reducible refine (node_goodIno.calls i true _ G2.out).mono ?_); rintro e w' ⟨rfl, ⟨nd2, rfl⟩⟩)
    | (go_at_call 48; (with_reducible refine (node_goodKind.calls kd false _ G3.out).mono ?_); rintro e w' ⟨rfl, ⟨nd3, rfl⟩⟩))
  refine bodyPost_ret (results_ct rfl _ _ (w.heap.size + 1) 37 #[.string ⟨#[]⟩, .string ⟨#[]⟩, .bool false] (0, 0) _ rfl (stored (w := w) (b := w.heap.size + 1) (by exact HR1.out) (by repeat (first | exact HB1.out | apply pw_below_drewN | apply below_drew1)) (Nat.le_succ _) _ _).1 Try.underlying37 rfl (by kernel_rfl)) rfl ?_
  exact ⟨rfl, (stored (w := w) (b := w.heap.size + 1) (by exact HR1.out) (by repeat (first | exact HB1.out | apply pw_below_drewN | apply below_drew1)) (Nat.le_succ _) _ _).2⟩
theorem good_b {a : Int} (h : goodIno_ a = true) : 1 ≤ a ∧ a ≤ 4096 := by unfold goodIno_ at h; simp at h; omega
theorem goodk_b {a : Int} (h : goodKind_ a = true) : 1 ≤ a ∧ a ≤ 3 := by unfold goodKind_ at h; simp at h; omega
set_option maxHeartbeats 8000000 in
set_option maxRecDepth 100000 in
theorem entry_made (a0 : Int) (n : ByteArray) (i kd rr : Int) (k : ByteArray) (w : World) (h0 : goodIno_ a0 = true) (h1 : names_Right.f n = some rr) (hr : rr = 0) (h2 : goodIno_ i = true) (h3 : goodKind_ kd = true) (hk : node_EntryKey.f a0 n = some k) : Calls Try.prog 34 #[.int .i64 a0, .agg #[.string n, .int .i64 i, .int .i64 kd]] w fun e w' => e = .returned (.tuple #[.agg #[.string k, .string (strOfNums (leBytes i 2 ++ leBytes kd 1)), .bool false], .int .i64 0]) ∧ Below w.heap.size w w' := by
  obtain ⟨b0, b1⟩ := good_b h2
  obtain ⟨b2, b3⟩ := goodk_b h3
  have hu59 := Try.underlying45
  have hu32 := Try.underlying37
  have G0 := Aside0.mk (goodIno_f a0 _ h0)
  have G1 := Aside0.mk h1
  subst hr
  have G2 := Aside0.mk (goodIno_f i _ h2)
  have G3 := Aside0.mk (goodKind_f kd _ h3)
  have HK := Aside0.mk hk
  have HPi := Aside0.mk (put_f i (by omega) (by omega)).2.1
  have HPk := Aside0.mk (put_f kd (by omega) (by omega)).1
  have HL0 := Aside0.mk (show ([] : List Int).length ≤ 1000000 by simp)
  have HL1 := Aside0.mk (show ([] ++ leBytes i 2 : List Int).length ≤ 1000000 by simp [leBytes])
  have HMi := Aside0.mk (show (leBytes i 2).length ≤ 8 by simp [leBytes])
  have HMk := Aside0.mk (show (leBytes kd 1).length ≤ 8 by simp [leBytes])
  clear h0 h1 h2 h3 hk b0 b1 b2 b3
  go_enter Try.func34, Try.ntmps34
  go_wp2_with (first
    | (go_at_call 46; (with_reducible refine (node_goodIno.calls a0 true _ G0.out).mono ?_); rintro e w' ⟨rfl, ⟨nd0, rfl⟩⟩)
    | (go_at_call 47; (with_reducible refine (names_Right.calls n 0 _ G1.out).mono ?_); rintro e w1 ⟨rfl, hb1d⟩
       have hb1 := (pw_below_drewN (Below.refl ((w.alloc (.cells #[.string n, .int .i64 i, .int .i64 kd] 45)).alloc (.cells #[.string ⟨#[]⟩, .string ⟨#[]⟩, .bool false] 37)).heap.size ((w.alloc (.cells #[.string n, .int .i64 i, .int .i64 kd] 45)).alloc (.cells #[.string ⟨#[]⟩, .string ⟨#[]⟩, .bool false] 37))) nd0).trans hb1d
       clear hb1d
       have HP1 := Aside0.mk (show Blk w1 w.heap.size #[.string n, .int .i64 i, .int .i64 kd] 45 from Blk.below (w := ((w.alloc (.cells #[.string n, .int .i64 i, .int .i64 kd] 45)).alloc (.cells #[.string ⟨#[]⟩, .string ⟨#[]⟩, .bool false] 37))) ((Blk.fresh w #[.string n, .int .i64 i, .int .i64 kd] 45).alloc _) hb1 (by simp; omega))
       have HR1 := Aside0.mk (show Blk w1 (w.heap.size + 1) #[.string ⟨#[]⟩, .string ⟨#[]⟩, .bool false] 37 by
         refine Blk.below (w := ((w.alloc (.cells #[.string n, .int .i64 i, .int .i64 kd] 45)).alloc (.cells #[.string ⟨#[]⟩, .string ⟨#[]⟩, .bool false] 37))) ?_ hb1 (by simp)
         simpa using Blk.fresh (w.alloc (.cells #[.string n, .int .i64 i, .int .i64 kd] 45)) #[.string ⟨#[]⟩, .string ⟨#[]⟩, .bool false] 37)
       have HB1 := Aside0.mk ((below_alloc (below_alloc (Below.refl w.heap.size w) (.cells #[.string n, .int .i64 i, .int .i64 kd] 45)) (.cells #[.string ⟨#[]⟩, .string ⟨#[]⟩, .bool false] 37)).trans (hb1.mono (by simp; omega)))
       have p0 := HP1.out.cell 0 _ rfl; have p1 := HP1.out.cell 1 _ rfl; have p2 := HP1.out.cell 2 _ rfl
       have c0 := HR1.out.cell 0 _ rfl; have c1 := HR1.out.cell 1 _ rfl; have c2 := HR1.out.cell 2 _ rfl
       have f0 := HR1.out.frozen 0; have f1 := HR1.out.frozen 1; have f2 := HR1.out.frozen 2
       clear hb1)
    | (go_at_call 46; (with_reducible refine (node_goodIno.calls i true _ G2.out).mono ?_); rintro e w' ⟨rfl, ⟨nd2, rfl⟩⟩)
    | (go_at_call 48; (with_reducible refine (node_goodKind.calls kd true _ G3.out).mono ?_); rintro e wv ⟨rfl, ⟨nd3, hwv⟩⟩
       have HRv := Aside0.mk (show Blk wv (w.heap.size + 1) #[.string ⟨#[]⟩, .string ⟨#[]⟩, .bool false] 37 by rw [hwv]; exact HR1.out)
       have HPv := Aside0.mk (show Blk wv w.heap.size #[.string n, .int .i64 i, .int .i64 kd] 45 by rw [hwv]; exact HP1.out)
       have HBv := Aside0.mk (show Below w.heap.size w wv by rw [hwv]; exact pw_below_drewN (pw_below_drewN HB1.out _) _)
       have HGv := Aside0.mk (show w.heap.size + 1 < wv.heap.size from HRv.out.lt)
       have HWv := Aside0.mk (Writer.fresh wv)
       have v1 := (HPv.out.alloc (.cells #[.slice none 0 0] 60)).cell 1 _ rfl
       clear hwv p0 p1 p2 c0 c1 c2 f0 f1 f2)
    | (go_at_call 49; (with_reducible refine (wput_calls wv.heap.size wv.heap.size _ [] (leBytes i 2) i 2 _ HWv.out HL0.out HMi.out HPi.out).mono ?_); rintro e w2 ⟨rfl, v2, hw2, hb2, hs2⟩
       have HW2 := Aside0.mk hw2; have HB2 := Aside0.mk (HBv.out.trans (((below_alloc (Below.refl wv.heap.size wv) (.cells #[.slice none 0 0] 60)).trans hb2).mono (by have := HGv.out; omega)))
       have HR2 := Aside0.mk (hs2.blk (HRv.out.alloc _) (by decide) (by have := HGv.out; omega))
       have HP2 := Aside0.mk (hs2.blk (HPv.out.alloc _) (by decide) (by have := HGv.out; omega))
       have p1 := HP2.out.cell 1 _ rfl; have p2 := HP2.out.cell 2 _ rfl
       clear hw2 hb2 hs2)
    | (go_at_call 49; (with_reducible refine (wput_calls wv.heap.size wv.heap.size _ _ (leBytes kd 1) kd 1 _ HW2.out HL1.out HMk.out HPk.out).mono ?_); rintro e w3 ⟨rfl, v3, hw3, hb3, hs3⟩
       have HW3 := Aside0.mk hw3; have HB3 := Aside0.mk (HB2.out.trans (hb3.mono (by have := HGv.out; omega)))
       have HR3 := Aside0.mk (hs3.blk HR2.out (by decide) (by have := HGv.out; omega))
       have HP3 := Aside0.mk (hs3.blk HP2.out (by decide) (by have := HGv.out; omega))
       have q0 := HP3.out.cell 0 _ rfl
       have hc3 := hw3.cell
       have hcv := Writer.text (Writer.below hw3 (below_drew (Below.refl _ _)))
       clear hw3 hb3 hs3))
  go_region_law (
         refine goes_ Try.func50 (by kernel_rfl) rfl #[.int .i64 a0, .string n] (by rfl) rfl rfl (by first | rfl | (simp [Act.eval, Act.put]; done) | (simp [Act.eval]; done)) ?_
         refine (node_EntryKey.calls a0 n k _ HK.out).mono ?_
         rintro e w4 ⟨rfl, hb4⟩
         refine ⟨_, rfl, ?_⟩
         have hb34 : Below w3.heap.size w3 w4 := (below_drew (Below.refl w3.heap.size w3)).trans hb4
         have hw4 := HW3.out.below hb34
         have hc4 := hw4.cell
         have hcv4 := hw4.text
         have hr4 := HR3.out.below hb34 HR3.out.lt
         have c0 := hr4.cell 0 _ rfl; have c1 := hr4.cell 1 _ rfl; have c2 := hr4.cell 2 _ rfl
         have f0 := hr4.frozen 0; have f1 := hr4.frozen 1; have f2 := hr4.frozen 2
         have HR4 := Aside0.mk hr4
         have HB4 := Aside0.mk (HB3.out.trans (hb34.mono HB3.out.size))
         clear hw4 hr4 hb4 hb34)
  all_goals
    go_wp2
    obtain ⟨hs, hb⟩ := stored HR4.out HB4.out (Nat.le_succ _) k (strOfNums ([] ++ leBytes i 2 ++ leBytes kd 1))
    refine bodyPost_ret (results_ct rfl _ _ (w.heap.size + 1) 37 #[.string k, .string (strOfNums ([] ++ leBytes i 2 ++ leBytes kd 1)), .bool false] (0, 0) _ rfl hs Try.underlying37 rfl (by kernel_rfl)) rfl ?_
    exact ⟨rfl, hb⟩
theorem node_Entry.calls (a0 : Int) (a1_0 : ByteArray) (a1_1 : Int) (a1_2 : Int) (r1 : ByteArray) (r2 : ByteArray) (r3 : Bool) (r4 : Int) (w : World) (h : node_Entry.f a0 a1_0 a1_1 a1_2 = some (r1, r2, r3, r4)) :
    Calls Try.prog 34 #[.int .i64 a0, .agg #[.string a1_0, .int .i64 a1_1, .int .i64 a1_2]] w fun e w' => e = .returned (.tuple #[.agg #[.string r1, .string r2, .bool r3], .int .i64 r4]) ∧ Below w.heap.size w w' := by
  unfold node_Entry.f at h
  obtain ⟨e, he, h⟩ := Option.bind_eq_some_iff.mp h
  cases h0 : goodIno_ a0 with
  | false =>
    simp [h0] at h
    obtain ⟨rfl, rfl, rfl, rfl⟩ := h
    exact entry_no0 a0 a1_0 a1_1 a1_2 0 w h0
  | true =>
    by_cases hr : e = 0
    · cases h2 : goodIno_ a1_1 with
      | false =>
        simp [h0, hr, h2] at h
        obtain ⟨rfl, rfl, rfl, rfl⟩ := h
        exact entry_no2 a0 a1_0 a1_1 a1_2 e w h0 he hr h2
      | true =>
        cases h3 : goodKind_ a1_2 with
        | false =>
          simp [h0, hr, h2, h3] at h
          obtain ⟨rfl, rfl, rfl, rfl⟩ := h
          exact entry_no3 a0 a1_0 a1_1 a1_2 e w h0 he hr h2 h3
        | true =>
          rw [if_pos (by simp [h0, hr, h2, h3])] at h
          obtain ⟨k, hk, h⟩ := Option.bind_eq_some_iff.mp h
          cases h
          exact entry_made a0 a1_0 a1_1 a1_2 e _ w h0 he hr h2 h3 hk
    · simp [h0, hr] at h
      obtain ⟨rfl, rfl, rfl, rfl⟩ := h
      exact entry_no1 a0 a1_0 a1_1 a1_2 e w h0 he hr
end Go.Proofs.Ytgjpbiogkjiliaa.Q
