/- node.Inode. -/
import Derived.Test.YtakchpeohmkpkaaQ5
import Derived.Test.YtakchpeohmkpkaaH5
import Derived.Test.YtakchpeohmkpkaaH6
namespace Go.Proofs.Ytakchpeohmkpkaa.Q
open Go.RowKit Go.Proofs.YtakchpeohmkpkaaW.PrintWords Go.Proofs.YtakchpeohmkpkaaW.PrintLast Go.Proofs.YtakchpeohmkpkaaW.PrintMore
set_option linter.unusedVariables false
set_option linter.unusedSimpArgs false

/-- A block of these cells, of no bytes. -/
def Blk (w : World) (b : Nat) (cs : Array Value) (t : Nat) : Prop := w.heap[b]? = some (.cells cs t (0, 0))
theorem Blk.lt {w : World} {b : Nat} {cs : Array Value} {t : Nat} (h : Blk w b cs t) : b < w.heap.size := (Array.getElem?_eq_some_iff.1 h).1
theorem Blk.fresh (w : World) (cs : Array Value) (t : Nat) : Blk (w.alloc (.cells cs t)) w.heap.size cs t := by
  show (w.heap.push _)[w.heap.size]? = _
  rw [Array.getElem?_push_size]
theorem Blk.below {w w1 : World} {B b : Nat} {cs : Array Value} {t : Nat} (h : Blk w b cs t) (hb : Below B w w1) (hB : b < B) : Blk w1 b cs t := (hb.block b hB).trans h
theorem Blk.alloc {w : World} {b : Nat} {cs : Array Value} {t : Nat} (h : Blk w b cs t) (o : Obj) : Blk (w.alloc o) b cs t := h.below (below_alloc (Below.refl _ _) o) h.lt
theorem Blk.drew {w : World} {b : Nat} {cs : Array Value} {t : Nat} (h : Blk w b cs t) : Blk w.drew b cs t := h
theorem Blk.cell {w : World} {b : Nat} {cs : Array Value} {t : Nat} (h : Blk w b cs t) (i : Nat) (v : Value) (hv : cs[i]? = some v) : w.cell? ⟨b, i, none⟩ = some v := by
  unfold Blk at h
  simp [World.cell?, h, hv]
theorem Blk.frozen {w : World} {b : Nat} {cs : Array Value} {t : Nat} (h : Blk w b cs t) (i : Nat) : w.frozen? ⟨b, i, none⟩ = false := by
  unfold Blk at h
  simp [World.frozen?, h]

/-- A node is stored into the result's block. -/
theorem stored {w w1 : World} {b : Nat} (h : Blk w1 b #[.string ⟨#[]⟩, .string ⟨#[]⟩, .bool false] 32) (hb : Below w.heap.size w w1) (hg : w.heap.size ≤ b) (k v : ByteArray) :
    (((w1.setCell ⟨b, 0, none⟩ (.string k)).setCell ⟨b, 1, none⟩ (.string v)).setCell ⟨b, 2, none⟩ (.bool false)).heap[b]? = some (.cells #[.string k, .string v, .bool false] 32 (0, 0)) ∧
    Below w.heap.size w (((w1.setCell ⟨b, 0, none⟩ (.string k)).setCell ⟨b, 1, none⟩ (.string v)).setCell ⟨b, 2, none⟩ (.bool false)) := by
  refine ⟨?_, ((hb.setCell (p := ⟨b, 0, none⟩) hg _).setCell (p := ⟨b, 1, none⟩) hg _).setCell (p := ⟨b, 2, none⟩) hg _⟩
  have h1 := heap_setCell_same w1 b 0 _ 32 (.string k) h
  have h2 := heap_setCell_same _ b 1 _ 32 (.string v) h1
  have h3 := heap_setCell_same _ b 2 _ 32 (.bool false) h2
  simpa using h3

/-- What an inode's node holds. -/
def inodeBytes (a1 a2 a3 a4 a5 a6 : Int) : List Int := leBytes a1 1 ++ leBytes a2 2 ++ leBytes a3 2 ++ leBytes a4 2 ++ leBytes a5 2 ++ leBytes a6 4
def node_Inode.f (a0 a1 a2 a3 a4 a5 a6 : Int) : Option (ByteArray × ByteArray × Bool × Int) :=
  if rightInode a0 a1 a2 a3 a4 a5 a6 = true then (node_InodeKey.f a0).bind fun k => some (k, strOfNums (inodeBytes a1 a2 a3 a4 a5 a6), false, 0) else some (⟨#[]⟩, ⟨#[]⟩, false, 22)

set_option maxHeartbeats 8000000 in
set_option maxRecDepth 100000 in
theorem inode_refused (a0 a1 a2 a3 a4 a5 a6 : Int) (w : World) (h : rightInode a0 a1 a2 a3 a4 a5 a6 = false) :
    Calls Try.prog 32 #[.agg #[.int .i64 a0, .int .i64 a1, .int .i64 a2, .int .i64 a3, .int .i64 a4, .int .i64 a5, .int .i64 a6]] w fun e w' => e = .returned (.tuple #[.agg #[.string ⟨#[]⟩, .string ⟨#[]⟩, .bool false], .int .i64 22]) ∧ Below w.heap.size w w' := by
  have hu52 := Try.underlying52
  have hu32 := Try.underlying32
  have HR := Aside0.mk (show node_right.f a0 a1 a2 a3 a4 a5 a6 = some false by unfold node_right.f; rw [h])
  obtain ⟨cs, hcs⟩ : ∃ cs : Array Value, cs = #[.int .i64 a0, .int .i64 a1, .int .i64 a2, .int .i64 a3, .int .i64 a4, .int .i64 a5, .int .i64 a6] := ⟨_, rfl⟩
  go_enter Try.func32, Try.ntmps32
  go_wp2_with (first
    | (go_at_call 59; (with_reducible refine (node_right.calls a0 a1 a2 a3 a4 a5 a6 false _ HR.out).mono ?_); rintro e w1 ⟨rfl, hb1⟩
       have hr1 : Blk w1 (w.heap.size + 1) #[.string ⟨#[]⟩, .string ⟨#[]⟩, .bool false] 32 := by
         refine Blk.below ?_ hb1 (by simp)
         simpa using Blk.fresh (w.alloc (.cells #[.int .i64 a0, .int .i64 a1, .int .i64 a2, .int .i64 a3, .int .i64 a4, .int .i64 a5, .int .i64 a6] 52)) #[.string ⟨#[]⟩, .string ⟨#[]⟩, .bool false] 32
       have c0 := hr1.cell 0 _ rfl; have c1 := hr1.cell 1 _ rfl; have c2 := hr1.cell 2 _ rfl
       have f0 := hr1.frozen 0; have f1 := hr1.frozen 1; have f2 := hr1.frozen 2
       have HR1 := Aside0.mk hr1
       have HB1 := Aside0.mk ((below_alloc (below_alloc (Below.refl w.heap.size w) (.cells #[.int .i64 a0, .int .i64 a1, .int .i64 a2, .int .i64 a3, .int .i64 a4, .int .i64 a5, .int .i64 a6] 52)) (.cells #[.string ⟨#[]⟩, .string ⟨#[]⟩, .bool false] 32)).trans (hb1.mono (by simp; omega)))
       clear hr1 hb1))
  obtain ⟨hs, hb⟩ := stored HR1.out HB1.out (Nat.le_succ _) ⟨#[]⟩ ⟨#[]⟩
  refine bodyPost_ret (results_ct rfl _ _ (w.heap.size + 1) 32 #[.string ⟨#[]⟩, .string ⟨#[]⟩, .bool false] (0, 0) _ rfl hs Try.underlying32 rfl (by kernel_rfl)) rfl ?_
  exact ⟨rfl, hb⟩

theorem rightInode_bounds {a0 a1 a2 a3 a4 a5 a6 : Int} (h : rightInode a0 a1 a2 a3 a4 a5 a6 = true) : (1 ≤ a0 ∧ a0 ≤ 4096) ∧ (1 ≤ a1 ∧ a1 ≤ 3) ∧ (0 ≤ a2 ∧ a2 ≤ 511) ∧ (0 ≤ a3 ∧ a3 ≤ 65535) ∧ (0 ≤ a4 ∧ a4 ≤ 65535) ∧ (0 ≤ a5 ∧ a5 ≤ 100) ∧ (0 ≤ a6 ∧ a6 ≤ 16384) := by
  simp [rightInode] at h
  omega
theorem put_f (n : Int) (h0 : 0 ≤ n) (h1 : n ≤ 100000) : bits_Put.f (IntKind.u64.wrap n) 1 = some (leBytes n 1) ∧ bits_Put.f (IntKind.u64.wrap n) 2 = some (leBytes n 2) ∧ bits_Put.f (IntKind.u64.wrap n) 4 = some (leBytes n 4) := by
  rw [u64_wrap (by omega) (by omega)]
  exact ⟨rfl, rfl, rfl⟩
theorem Stays.blk {w w1 : World} {g b t : Nat} {cs : Array Value} (h : Stays w w1 g) (hb : Blk w b cs t) (ht : t ≠ 5) (hg : b ≠ g) : Blk w1 b cs t := h b cs t ht hg hb
theorem Writer.text {w : World} {base g : Nat} {v : Value} {xs : List Int} (h : Writer w base g v xs) : (convert 34 9 v).run Try.prog w = .ok (.string (strOfNums xs)) w :=
  own_string Try.underlying34 Try.underlying5 Try.underlying9 (Kd.own_of_R h.row)

/-- What holds at the head of the loop over the four numbers. -/
structure InodeHead (w wx : World) (g l i : Nat) (a0 a1 a2 a3 a4 a5 a6 : Int) (v : Value) : Prop where
  wr : Writer wx g g v (leBytes a1 1 ++ ([a2, a3, a4, a5].take i).flatMap fun x => leBytes x 2)
  par : Blk wx w.heap.size #[.int .i64 a0, .int .i64 a1, .int .i64 a2, .int .i64 a3, .int .i64 a4, .int .i64 a5, .int .i64 a6] 52
  res : Blk wx (w.heap.size + 1) #[.string ⟨#[]⟩, .string ⟨#[]⟩, .bool false] 32
  lit : Blk wx l #[.int .i64 a2, .int .i64 a3, .int .i64 a4, .int .i64 a5] 3
  below : Below w.heap.size w wx
theorem InodeHead.next {w wx w1 : World} {g l i : Nat} {a0 a1 a2 a3 a4 a5 a6 x : Int} {v v1 : Value} (h : InodeHead w wx g l i a0 a1 a2 a3 a4 a5 a6 v) (hg : w.heap.size + 1 < g) (hl : l ≠ g) (hx : [a2, a3, a4, a5][i]? = some x)
    (hw : Writer w1 g g v1 (leBytes a1 1 ++ (([a2, a3, a4, a5].take i).flatMap fun x => leBytes x 2) ++ leBytes x 2)) (hb : Below g wx w1) (hs : Stays wx w1 g) : InodeHead w w1 g l (i + 1) a0 a1 a2 a3 a4 a5 a6 v1 := by
  refine ⟨?_, hs.blk h.par (by decide) (by omega), hs.blk h.res (by decide) (by omega), hs.blk h.lit (by decide) hl, h.below.trans (hb.mono (by omega))⟩
  rw [List.take_add_one, hx]
  simpa [List.flatMap_append, List.append_assoc] using hw

set_option maxHeartbeats 8000000 in
set_option maxRecDepth 100000 in
theorem inode_made (a0 a1 a2 a3 a4 a5 a6 : Int) (k : ByteArray) (w : World) (h : rightInode a0 a1 a2 a3 a4 a5 a6 = true) (hk : node_InodeKey.f a0 = some k) :
    Calls Try.prog 32 #[.agg #[.int .i64 a0, .int .i64 a1, .int .i64 a2, .int .i64 a3, .int .i64 a4, .int .i64 a5, .int .i64 a6]] w fun e w' => e = .returned (.tuple #[.agg #[.string k, .string (strOfNums (inodeBytes a1 a2 a3 a4 a5 a6)), .bool false], .int .i64 0]) ∧ Below w.heap.size w w' := by
  have hu52 := Try.underlying52
  have hu32 := Try.underlying32
  have HR := Aside0.mk (show node_right.f a0 a1 a2 a3 a4 a5 a6 = some true by unfold node_right.f; rw [h])
  obtain ⟨b0, b1, b2, b3, b4, b5, b6⟩ := rightInode_bounds h
  have HK := Aside0.mk hk
  have HP1 := Aside0.mk (put_f a1 (by omega) (by omega)).1
  have HP6 := Aside0.mk (put_f a6 (by omega) (by omega)).2.2
  have HPx := Aside0.mk (fun (x : Int) (hx : 0 ≤ x ∧ x ≤ 65535) => (put_f x hx.1 (by omega)).2.1)
  have HQ2 := Aside0.mk (HPx.out a2 (by omega)); have HQ3 := Aside0.mk (HPx.out a3 (by omega)); have HQ4 := Aside0.mk (HPx.out a4 (by omega)); have HQ5 := Aside0.mk (HPx.out a5 (by omega))
  have HM1 := Aside0.mk (fun x : Int => show (leBytes x 1).length ≤ 8 by simp [leBytes])
  have HM2 := Aside0.mk (fun x : Int => show (leBytes x 2).length ≤ 8 by simp [leBytes])
  have HM4 := Aside0.mk (fun x : Int => show (leBytes x 4).length ≤ 8 by simp [leBytes])
  have HL0 := Aside0.mk (show ([] : List Int).length ≤ 1000000 by simp)
  clear h hk HPx b0 b1 b2 b3 b4 b5 b6
  go_enter Try.func32, Try.ntmps32
  go_wp2_with (first
    | (go_at_call 59; (with_reducible refine (node_right.calls a0 a1 a2 a3 a4 a5 a6 true _ HR.out).mono ?_); rintro e w1 ⟨rfl, hb1⟩
       have hr1 : Blk w1 (w.heap.size + 1) #[.string ⟨#[]⟩, .string ⟨#[]⟩, .bool false] 32 := by
         refine Blk.below ?_ hb1 (by simp)
         simpa using Blk.fresh (w.alloc (.cells #[.int .i64 a0, .int .i64 a1, .int .i64 a2, .int .i64 a3, .int .i64 a4, .int .i64 a5, .int .i64 a6] 52)) #[.string ⟨#[]⟩, .string ⟨#[]⟩, .bool false] 32
       have hp1 : Blk w1 w.heap.size #[.int .i64 a0, .int .i64 a1, .int .i64 a2, .int .i64 a3, .int .i64 a4, .int .i64 a5, .int .i64 a6] 52 := ((Blk.fresh w #[.int .i64 a0, .int .i64 a1, .int .i64 a2, .int .i64 a3, .int .i64 a4, .int .i64 a5, .int .i64 a6] 52).alloc _).below hb1 (by simp; omega)
       have HB1 := Aside0.mk ((below_alloc (below_alloc (Below.refl w.heap.size w) (.cells #[.int .i64 a0, .int .i64 a1, .int .i64 a2, .int .i64 a3, .int .i64 a4, .int .i64 a5, .int .i64 a6] 52)) (.cells #[.string ⟨#[]⟩, .string ⟨#[]⟩, .bool false] 32)).trans (hb1.mono (by simp; omega)))
       have HW1 := Aside0.mk (Writer.fresh w1); have hc1 := HW1.out.cell
       have HR1 := Aside0.mk (hr1.alloc (.cells #[.slice none 0 0] 69))
       have HP1' := Aside0.mk (hp1.alloc (.cells #[.slice none 0 0] 69))
       have d1 := HP1'.out.cell 1 _ rfl
       have HG1 := Aside0.mk (show w.heap.size + 1 < w1.heap.size by have := hr1.lt; omega)
       clear hr1 hp1 hb1)
    | (go_at_call 46; (with_reducible refine (put_calls w1.heap.size w1.heap.size _ [] (leBytes a1 1) a1 1 _ HW1.out HL0.out (HM1.out _) HP1.out).mono ?_); rintro e w2 ⟨rfl, v2, hw2, hb2, hs2⟩
       have HW2 := Aside0.mk hw2; have HB2 := Aside0.mk (HB1.out.trans (((below_alloc (Below.refl w1.heap.size w1) (.cells #[.slice none 0 0] 69)).trans hb2).mono (by have := HG1.out; omega)))
       have HR2 := Aside0.mk (hs2.blk HR1.out (by decide) (by have := HG1.out; omega))
       have HP2 := Aside0.mk (hs2.blk HP1'.out (by decide) (by have := HG1.out; omega))
       have e2 := HP2.out.cell 2 _ rfl; have e3 := HP2.out.cell 3 _ rfl; have e4 := HP2.out.cell 4 _ rfl; have e5 := HP2.out.cell 5 _ rfl
       clear hw2 hb2 hs2 hc1 d1))
  go_loopg [27] 4 (fun gk s27 wx => ∃ (i : Nat) (v : Value), i + gk = 4 ∧ s27 = .int .i64 i ∧ InodeHead w wx w1.heap.size w2.heap.size i a0 a1 a2 a3 a4 a5 a6 v)
  case atStart =>
    refine ⟨0, v2, rfl, rfl, ?_, HP2.out.alloc _, HR2.out.alloc _, Blk.fresh _ _ _, below_alloc HB2.out _⟩
    simpa using HW2.out.below (below_alloc (Below.refl _ _) _)
  case round =>
    obtain ⟨i, v, hig, rfl, hh⟩ := hrel
    cases gk with
    | zero =>
      obtain rfl : i = 4 := by omega
      have HH := Aside0.mk hh
      have p0 := hh.par.cell 0 _ rfl; have p6 := hh.par.cell 6 _ rfl
      have HLx := Aside0.mk (show (leBytes a1 1 ++ ([a2, a3, a4, a5].take 4).flatMap fun x => leBytes x 2).length ≤ 1000000 by simp [leBytes])
      clear hh
      go_wp2_with (first
        | (go_at_call 46; (with_reducible refine (put_calls w1.heap.size w1.heap.size v _ (leBytes a6 4) a6 4 _ HH.out.wr HLx.out (HM4.out _) HP6.out).mono ?_); rintro e w3 ⟨rfl, v3, hw3, hb3, hs3⟩
           have HW3 := Aside0.mk hw3; have HB3 := Aside0.mk (HH.out.below.trans (hb3.mono (by have := HG1.out; omega)))
           have HR3 := Aside0.mk (hs3.blk HH.out.res (by decide) (by have := HG1.out; omega))
           have HP3 := Aside0.mk (hs3.blk HH.out.par (by decide) (by have := HG1.out; omega))
           have q0 := HP3.out.cell 0 _ rfl
           have hc3 := hw3.cell
           have hcv := Writer.text (Writer.below hw3 (below_drew (Below.refl _ _)))
           clear hw3 hb3 hs3 p0 p6))
      go_region_law (
         refine goes_ Try.func16 (by kernel_rfl) rfl #[.int .i64 a0] (by rfl) rfl rfl (by first | rfl | (simp [Act.eval, Act.put]; done) | (simp [Act.eval]; done)) ?_
         refine (node_InodeKey.calls a0 k _ HK.out).mono ?_
         rintro e w4 ⟨rfl, hb4⟩
         refine ⟨_, rfl, ?_⟩
         have hb34 : Below w3.heap.size w3 w4 := (below_drew (Below.refl w3.heap.size w3)).trans hb4
         have hw4 := HW3.out.below hb34
         have hc4 := hw4.cell
         have hcv4 := hw4.text
         have hr4 := HR3.out.below hb34 HR3.out.lt
         have c0 := hr4.cell 0 _ rfl; have c1 := hr4.cell 1 _ rfl; have c2 := hr4.cell 2 _ rfl
         have f0 := hr4.frozen 0; have f1 := hr4.frozen 1; have f2 := hr4.frozen 2
         have HR4 := Aside0.mk hr4
         have HB4 := Aside0.mk (HB3.out.trans (hb34.mono HB3.out.size))
         clear hw4 hr4 hb4 hb34)
      all_goals
        go_wp2
        obtain ⟨hs, hb⟩ := stored HR4.out HB4.out (Nat.le_succ _) k (strOfNums ((leBytes a1 1 ++ ([a2, a3, a4, a5].take 4).flatMap fun x => leBytes x 2) ++ leBytes a6 4))
        refine bodyPost_ret (results_ct rfl _ _ (w.heap.size + 1) 32 #[.string k, .string (strOfNums ((leBytes a1 1 ++ ([a2, a3, a4, a5].take 4).flatMap fun x => leBytes x 2) ++ leBytes a6 4)), .bool false] (0, 0) _ rfl hs Try.underlying32 rfl (by kernel_rfl)) rfl ?_
        refine ⟨?_, hb⟩
        have he : strOfNums (inodeBytes a1 a2 a3 a4 a5 a6) = strOfNums ((leBytes a1 1 ++ ([a2, a3, a4, a5].take 4).flatMap fun x => leBytes x 2) ++ leBytes a6 4) := by simp [inodeBytes, List.append_assoc]
        rw [he]
        rfl
    | succ gk =>
      have hi : i = 0 ∨ i = 1 ∨ i = 2 ∨ i = 3 := by omega
      rcases hi with rfl | rfl | rfl | rfl
      · have l0 := hh.lit.cell 0 _ rfl
        have HH := Aside0.mk hh
        have HLx := Aside0.mk (show (leBytes a1 1 ++ ([a2, a3, a4, a5].take 0).flatMap fun x => leBytes x 2).length ≤ 1000000 by simp [leBytes])
        clear hh
        go_wp2_with (first
          | (go_at_call 46; (with_reducible refine (put_calls w1.heap.size w1.heap.size v _ (leBytes a2 2) a2 2 _ HH.out.wr HLx.out (HM2.out _) HQ2.out).mono ?_); rintro e w3 ⟨rfl, v3, hw3, hb3, hs3⟩))
        go_roundg 3
        case measure => omega
        case rel => exact ⟨1, v3, by omega, rfl, HH.out.next HG1.out (by have := HW2.out.lt; omega) rfl hw3 hb3 hs3⟩
      · have l1 := hh.lit.cell 1 _ rfl
        have HH := Aside0.mk hh
        have HLx := Aside0.mk (show (leBytes a1 1 ++ ([a2, a3, a4, a5].take 1).flatMap fun x => leBytes x 2).length ≤ 1000000 by simp [leBytes])
        clear hh
        go_wp2_with (first
          | (go_at_call 46; (with_reducible refine (put_calls w1.heap.size w1.heap.size v _ (leBytes a3 2) a3 2 _ HH.out.wr HLx.out (HM2.out _) HQ3.out).mono ?_); rintro e w3 ⟨rfl, v3, hw3, hb3, hs3⟩))
        go_roundg 2
        case measure => omega
        case rel => exact ⟨2, v3, by omega, rfl, HH.out.next HG1.out (by have := HW2.out.lt; omega) rfl hw3 hb3 hs3⟩
      · have l2 := hh.lit.cell 2 _ rfl
        have HH := Aside0.mk hh
        have HLx := Aside0.mk (show (leBytes a1 1 ++ ([a2, a3, a4, a5].take 2).flatMap fun x => leBytes x 2).length ≤ 1000000 by simp [leBytes])
        clear hh
        go_wp2_with (first
          | (go_at_call 46; (with_reducible refine (put_calls w1.heap.size w1.heap.size v _ (leBytes a4 2) a4 2 _ HH.out.wr HLx.out (HM2.out _) HQ4.out).mono ?_); rintro e w3 ⟨rfl, v3, hw3, hb3, hs3⟩))
        go_roundg 1
        case measure => omega
        case rel => exact ⟨3, v3, by omega, rfl, HH.out.next HG1.out (by have := HW2.out.lt; omega) rfl hw3 hb3 hs3⟩
      · have l3 := hh.lit.cell 3 _ rfl
        have HH := Aside0.mk hh
        have HLx := Aside0.mk (show (leBytes a1 1 ++ ([a2, a3, a4, a5].take 3).flatMap fun x => leBytes x 2).length ≤ 1000000 by simp [leBytes])
        clear hh
        go_wp2_with (first
          | (go_at_call 46; (with_reducible refine (put_calls w1.heap.size w1.heap.size v _ (leBytes a5 2) a5 2 _ HH.out.wr HLx.out (HM2.out _) HQ5.out).mono ?_); rintro e w3 ⟨rfl, v3, hw3, hb3, hs3⟩))
        go_roundg 0
        case measure => omega
        case rel => exact ⟨4, v3, by omega, rfl, HH.out.next HG1.out (by have := HW2.out.lt; omega) rfl hw3 hb3 hs3⟩

theorem node_Inode.calls (a0_0 : Int) (a0_1 : Int) (a0_2 : Int) (a0_3 : Int) (a0_4 : Int) (a0_5 : Int) (a0_6 : Int) (r1 : ByteArray) (r2 : ByteArray) (r3 : Bool) (r4 : Int) (w : World) (h : node_Inode.f a0_0 a0_1 a0_2 a0_3 a0_4 a0_5 a0_6 = some (r1, r2, r3, r4)) :
    Calls Try.prog 32 #[.agg #[.int .i64 a0_0, .int .i64 a0_1, .int .i64 a0_2, .int .i64 a0_3, .int .i64 a0_4, .int .i64 a0_5, .int .i64 a0_6]] w fun e w' => e = .returned (.tuple #[.agg #[.string r1, .string r2, .bool r3], .int .i64 r4]) ∧ Below w.heap.size w w' := by
  unfold node_Inode.f at h
  split at h
  · rename_i hr
    obtain ⟨k, hk, h⟩ := Option.bind_eq_some_iff.mp h
    cases h
    exact inode_made _ _ _ _ _ _ _ _ w hr hk
  · rename_i hr
    cases h
    exact inode_refused _ _ _ _ _ _ _ w (Bool.eq_false_iff.mpr hr)
end Go.Proofs.Ytakchpeohmkpkaa.Q
