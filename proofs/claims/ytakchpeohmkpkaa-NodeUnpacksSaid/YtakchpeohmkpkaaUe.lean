/- A11, H7, Q6, A0, Q1, K13, K7, K8 -/
import Derived.Lib.Strings
import Derived.Test.YtakchpeohmkpkaaUa
import Derived.Test.YtakchpeohmkpkaaUb
import Derived.Test.YtakchpeohmkpkaaUc
import Derived.Test.YtakchpeohmkpkaaUd
namespace Go.Proofs.Ytakchpeohmkpkaa.Q
open Go.RowKit Go.Proofs.YtakchpeohmkpkaaW.PrintWords
set_option linter.unusedVariables false
set_option linter.unusedSimpArgs false
theorem pos_two (l : List Int) (a k : Nat) : (pos l a k = a + k ∧ a + k ≤ l.length) ∨ (pos l a k = l.length + 1 ∧ l.length < a + k) := by
  unfold pos
  split <;> omega
theorem leVal_one (x : Int) : leVal [x] = x := by simp [leVal]
theorem right_some2 (k v : ByteArray) (g : Bool) : ∃ b, node_Right.f k v g = some b := by
  unfold node_Right.f
  by_cases h1 : (k.size : Int) ≥ 1 <;> by_cases h2 : (k.size : Int) ≤ 64 <;> by_cases h3 : (v.size : Int) ≤ 256 <;> cases g <;> by_cases h4 : v.toList = [] <;> simp [h1, h2, h3, h4]
theorem byteB_of {l : List Int} (hb : Bytes l) : byteB l = true := by
  unfold byteB
  rw [List.all_eq_true]
  intro x hx
  have := hb x hx
  simp [this.1, this.2]
/-- What both readers make of bytes. -/
def recd (k0 n0 : Int) (key vv : List Int) (M : Nat) : ByteArray × ByteArray × Bool × Bool :=
  if (k0 = 1 ∨ k0 = 2) ∧ M = vv.length ∧ node_Right.f (strOfNums key) (strOfNums vv) (decide (k0 = 2)) = some true then (strOfNums key, strOfNums vv, decide (k0 = 2), true) else (⟨#[]⟩, ⟨#[]⟩, false, false)
theorem node_unpack_val (k0 : Int) (n : Nat) (key vv : List Int) (m0 m1' : Int) (M : Nat) (hb : Bytes (k0 :: (n : Int) :: (key ++ m0 :: m1' :: vv))) (hl : (k0 :: (n : Int) :: (key ++ m0 :: m1' :: vv)).length ≤ 281474976710656) (htl : key.length = n) (hMM : m0 + 256 * m1' = (M : Int)) :
    node_Unpack.f (k0 :: (n : Int) :: (key ++ m0 :: m1' :: vv)) = some (recd k0 n key vv M) := by
  obtain ⟨t, ht⟩ : ∃ t, t = key ++ m0 :: m1' :: vv := ⟨_, rfl⟩
  rw [← ht] at hb hl ⊢
  have htk : t.take n = key := by rw [ht, ← htl, List.take_left]
  have hd : t.drop n = m0 :: m1' :: vv := by rw [ht, ← htl, List.drop_left]
  have hvl : t.length = n + 2 + vv.length := by rw [ht, List.length_append, htl]; simp only [List.length_cons]; omega
  have hlen : ((k0 :: (n : Int) :: t)).length = t.length + 2 := rfl
  have e1 : pos (k0 :: (n : Int) :: t) 0 1 = 1 := by have := pos_two (k0 :: (n : Int) :: t) 0 1; omega
  have e2 : pos (k0 :: (n : Int) :: t) 1 1 = 2 := by have := pos_two (k0 :: (n : Int) :: t) 1 1; omega
  have m1 : nxt (k0 :: (n : Int) :: t) 0 1 = [k0] := by unfold nxt; rw [if_pos (by simp)]; rfl
  have m2 : nxt (k0 :: (n : Int) :: t) 1 1 = [(n : Int)] := by unfold nxt; rw [if_pos (by simp)]; rfl
  have e3 : pos (k0 :: (n : Int) :: t) 2 n = 2 + n := by have := pos_two (k0 :: (n : Int) :: t) 2 n; omega
  have e4 : pos (k0 :: (n : Int) :: t) (2 + n) 2 = 4 + n := by have := pos_two (k0 :: (n : Int) :: t) (2 + n) 2; omega
  have m3 : nxt (k0 :: (n : Int) :: t) 2 n = key := by unfold nxt; rw [if_pos (by omega)]; exact htk
  have m4 : nxt (k0 :: (n : Int) :: t) (2 + n) 2 = [m0, m1'] := by
    unfold nxt
    rw [if_pos (by omega), show 2 + n = n + 2 from by omega]
    show (t.drop n).take 2 = _
    rw [hd]
    rfl
  have hM : leVal [m0, m1'] = m0 + 256 * m1' := by simp [leVal]
  unfold node_Unpack.f
  rw [if_pos ⟨byteB_of hb, hl⟩]
  simp only [e1, e2, m1, m2, leVal_one, Int.toNat_natCast, e3, e4, m3, m4, hM, hMM]
  obtain ⟨rt, hrt⟩ := right_some2 (strOfNums key) (strOfNums (nxt (k0 :: (n : Int) :: t) (4 + n) M)) (decide (k0 = 2))
  rw [hrt]
  have p5 := pos_two (k0 :: (n : Int) :: t) (4 + n) M
  simp only [unpackN, e1, e2, m1, m2, leVal_one, Int.toNat_natCast, e3, e4, m3, m4, hM, hMM, Option.bind_some]
  congr 1
  unfold recd
  by_cases hMv : M = vv.length
  · have e5 : pos (k0 :: (n : Int) :: t) (4 + n) M = (k0 :: (n : Int) :: t).length := by omega
    have m5 : nxt (k0 :: (n : Int) :: t) (4 + n) M = vv := by
      unfold nxt
      rw [if_pos (by omega), show 4 + n = (n + 2) + 2 from by omega]
      show (t.drop (n + 2)).take M = _
      rw [← List.drop_drop, hd, hMv]
      show vv.take vv.length = vv
      rw [List.take_length]
    rw [m5] at hrt ⊢
    rw [hrt, e5]
    by_cases hkk : k0 = 1 ∨ k0 = 2 <;> cases rt <;> simp [hkk, hMv]
  · rw [if_neg (c := _ ∧ M = vv.length ∧ _) (fun h => hMv h.2.1), if_neg]
    rintro ⟨_, h, _⟩
    apply hMv
    omega
end Go.Proofs.Ytakchpeohmkpkaa.Q

namespace Go.Proofs.Ytakchpeohmkpkaa.Q
open Go.RowKit Go.Proofs.YtakchpeohmkpkaaW.PrintWords Go.Proofs.YtakchpeohmkpkaaW.PrintLast Go.Proofs.YtakchpeohmkpkaaW.PrintMore
set_option linter.unusedVariables false
set_option linter.unusedSimpArgs false

/-- A block of these cells, of no bytes. -/
def Blk (w : World) (b : Nat) (cs : Array Value) (t : Nat) : Prop := w.heap[b]? = some (.cells cs t (0, 0))
theorem Blk.lt {w : World} {b : Nat} {cs : Array Value} {t : Nat} (h : Blk w b cs t) : b < w.heap.size := (Array.getElem?_eq_some_iff.1 h).1
theorem Blk.fresh (w : World) (cs : Array Value) (t : Nat) : Blk (w.alloc (.cells cs t)) w.heap.size cs t := by
  show (w.heap.push _)[w.heap.size]? = _
  rw [Array.getElem?_push_size]
theorem Blk.below {w w1 : World} {B b : Nat} {cs : Array Value} {t : Nat} (h : Blk w b cs t) (hb : Below B w w1) (hB : b < B) : Blk w1 b cs t := (hb.block b hB).trans h
theorem Blk.alloc {w : World} {b : Nat} {cs : Array Value} {t : Nat} (h : Blk w b cs t) (o : Obj) : Blk (w.alloc o) b cs t := h.below (below_alloc (Below.refl _ _) o) h.lt
theorem Blk.drew {w : World} {b : Nat} {cs : Array Value} {t : Nat} (h : Blk w b cs t) : Blk w.drew b cs t := h
theorem Blk.cell {w : World} {b : Nat} {cs : Array Value} {t : Nat} (h : Blk w b cs t) (i : Nat) (v : Value) (hv : cs[i]? = some v) : w.cell? ⟨b, i, none⟩ = some v := by
  unfold Blk at h
  simp [World.cell?, h, hv]
theorem Blk.frozen {w : World} {b : Nat} {cs : Array Value} {t : Nat} (h : Blk w b cs t) (i : Nat) : w.frozen? ⟨b, i, none⟩ = false := by
  unfold Blk at h
  simp [World.frozen?, h]

/-- A node is stored into the result's block. -/
theorem stored {w w1 : World} {b : Nat} (h : Blk w1 b #[.string ⟨#[]⟩, .string ⟨#[]⟩, .bool false] 32) (hb : Below w.heap.size w w1) (hg : w.heap.size ≤ b) (k v : ByteArray) :
    (((w1.setCell ⟨b, 0, none⟩ (.string k)).setCell ⟨b, 1, none⟩ (.string v)).setCell ⟨b, 2, none⟩ (.bool false)).heap[b]? = some (.cells #[.string k, .string v, .bool false] 32 (0, 0)) ∧
    Below w.heap.size w (((w1.setCell ⟨b, 0, none⟩ (.string k)).setCell ⟨b, 1, none⟩ (.string v)).setCell ⟨b, 2, none⟩ (.bool false)) := by
  refine ⟨?_, ((hb.setCell (p := ⟨b, 0, none⟩) hg _).setCell (p := ⟨b, 1, none⟩) hg _).setCell (p := ⟨b, 2, none⟩) hg _⟩
  have h1 := heap_setCell_same w1 b 0 _ 32 (.string k) h
  have h2 := heap_setCell_same _ b 1 _ 32 (.string v) h1
  have h3 := heap_setCell_same _ b 2 _ 32 (.bool false) h2
  simpa using h3

/-- What an inode's node holds. -/
def inodeBytes (a1 a2 a3 a4 a5 a6 : Int) : List Int := leBytes a1 1 ++ leBytes a2 2 ++ leBytes a3 2 ++ leBytes a4 2 ++ leBytes a5 2 ++ leBytes a6 4
def node_Inode.f (a0 a1 a2 a3 a4 a5 a6 : Int) : Option (ByteArray × ByteArray × Bool × Int) :=
  if rightInode a0 a1 a2 a3 a4 a5 a6 = true then (node_InodeKey.f a0).bind fun k => some (k, strOfNums (inodeBytes a1 a2 a3 a4 a5 a6), false, 0) else some (⟨#[]⟩, ⟨#[]⟩, false, 22)

set_option maxHeartbeats 8000000 in
set_option maxRecDepth 100000 in
theorem inode_refused (a0 a1 a2 a3 a4 a5 a6 : Int) (w : World) (h : rightInode a0 a1 a2 a3 a4 a5 a6 = false) :
    Calls Try.prog 32 #[.agg #[.int .i64 a0, .int .i64 a1, .int .i64 a2, .int .i64 a3, .int .i64 a4, .int .i64 a5, .int .i64 a6]] w fun e w' => e = .returned (.tuple #[.agg #[.string ⟨#[]⟩, .string ⟨#[]⟩, .bool false], .int .i64 22]) ∧ Below w.heap.size w w' := by
  have hu52 := Try.underlying52
  have hu32 := Try.underlying32
  have HR := Aside0.mk (show node_right.f a0 a1 a2 a3 a4 a5 a6 = some false by unfold node_right.f; rw [h])
  obtain ⟨cs, hcs⟩ : ∃ cs : Array Value, cs = #[.int .i64 a0, .int .i64 a1, .int .i64 a2, .int .i64 a3, .int .i64 a4, .int .i64 a5, .int .i64 a6] := ⟨_, rfl⟩
  go_enter Try.func32, Try.ntmps32
  go_wp2_with (first
    | (go_at_call 59; (with_reducible refine (node_right.calls a0 a1 a2 a3 a4 a5 a6 false _ HR.out).mono ?_); rintro e w1 ⟨rfl, hb1⟩
       have hr1 : Blk w1 (w.heap.size + 1) #[.string ⟨#[]⟩, .string ⟨#[]⟩, .bool false] 32 := by
         refine Blk.below ?_ hb1 (by simp)
         simpa using Blk.fresh (w.alloc (.cells #[.int .i64 a0, .int .i64 a1, .int .i64 a2, .int .i64 a3, .int .i64 a4, .int .i64 a5, .int .i64 a6] 52)) #[.string ⟨#[]⟩, .string ⟨#[]⟩, .bool false] 32
       have c0 := hr1.cell 0 _ rfl; have c1 := hr1.cell 1 _ rfl; have c2 := hr1.cell 2 _ rfl
       have f0 := hr1.frozen 0; have f1 := hr1.frozen 1; have f2 := hr1.frozen 2
       have HR1 := Aside0.mk hr1
       have HB1 := Aside0.mk ((below_alloc (below_alloc (Below.refl w.heap.size w) (.cells #[.int .i64 a0, .int .i64 a1, .int .i64 a2, .int .i64 a3, .int .i64 a4, .int .i64 a5, .int .i64 a6] 52)) (.cells #[.string ⟨#[]⟩, .string ⟨#[]⟩, .bool false] 32)).trans (hb1.mono (by simp; omega)))
       clear hr1 hb1))
  obtain ⟨hs, hb⟩ := stored HR1.out HB1.out (Nat.le_succ _) ⟨#[]⟩ ⟨#[]⟩
  refine bodyPost_ret (results_ct rfl _ _ (w.heap.size + 1) 32 #[.string ⟨#[]⟩, .string ⟨#[]⟩, .bool false] (0, 0) _ rfl hs Try.underlying32 rfl (by kernel_rfl)) rfl ?_
  exact ⟨rfl, hb⟩

theorem rightInode_bounds {a0 a1 a2 a3 a4 a5 a6 : Int} (h : rightInode a0 a1 a2 a3 a4 a5 a6 = true) : (1 ≤ a0 ∧ a0 ≤ 4096) ∧ (1 ≤ a1 ∧ a1 ≤ 3) ∧ (0 ≤ a2 ∧ a2 ≤ 511) ∧ (0 ≤ a3 ∧ a3 ≤ 65535) ∧ (0 ≤ a4 ∧ a4 ≤ 65535) ∧ (0 ≤ a5 ∧ a5 ≤ 100) ∧ (0 ≤ a6 ∧ a6 ≤ 16384) := by
  simp [rightInode] at h
  omega
theorem put_f (n : Int) (h0 : 0 ≤ n) (h1 : n ≤ 100000) : bits_Put.f (IntKind.u64.wrap n) 1 = some (leBytes n 1) ∧ bits_Put.f (IntKind.u64.wrap n) 2 = some (leBytes n 2) ∧ bits_Put.f (IntKind.u64.wrap n) 4 = some (leBytes n 4) := by
  rw [u64_wrap (by omega) (by omega)]
  exact ⟨rfl, rfl, rfl⟩
theorem Stays.blk {w w1 : World} {g b t : Nat} {cs : Array Value} (h : Stays w w1 g) (hb : Blk w b cs t) (ht : t ≠ 5) (hg : b ≠ g) : Blk w1 b cs t := h b cs t ht hg hb
theorem Writer.text {w : World} {base g : Nat} {v : Value} {xs : List Int} (h : Writer w base g v xs) : (convert 34 9 v).run Try.prog w = .ok (.string (strOfNums xs)) w :=
  own_string Try.underlying34 Try.underlying5 Try.underlying9 (Kd.own_of_R h.row)

/-- What holds at the head of the loop over the four numbers. -/
structure InodeHead (w wx : World) (g l i : Nat) (a0 a1 a2 a3 a4 a5 a6 : Int) (v : Value) : Prop where
  wr : Writer wx g g v (leBytes a1 1 ++ ([a2, a3, a4, a5].take i).flatMap fun x => leBytes x 2)
  par : Blk wx w.heap.size #[.int .i64 a0, .int .i64 a1, .int .i64 a2, .int .i64 a3, .int .i64 a4, .int .i64 a5, .int .i64 a6] 52
  res : Blk wx (w.heap.size + 1) #[.string ⟨#[]⟩, .string ⟨#[]⟩, .bool false] 32
  lit : Blk wx l #[.int .i64 a2, .int .i64 a3, .int .i64 a4, .int .i64 a5] 3
  below : Below w.heap.size w wx
theorem InodeHead.next {w wx w1 : World} {g l i : Nat} {a0 a1 a2 a3 a4 a5 a6 x : Int} {v v1 : Value} (h : InodeHead w wx g l i a0 a1 a2 a3 a4 a5 a6 v) (hg : w.heap.size + 1 < g) (hl : l ≠ g) (hx : [a2, a3, a4, a5][i]? = some x)
    (hw : Writer w1 g g v1 (leBytes a1 1 ++ (([a2, a3, a4, a5].take i).flatMap fun x => leBytes x 2) ++ leBytes x 2)) (hb : Below g wx w1) (hs : Stays wx w1 g) : InodeHead w w1 g l (i + 1) a0 a1 a2 a3 a4 a5 a6 v1 := by
  refine ⟨?_, hs.blk h.par (by decide) (by omega), hs.blk h.res (by decide) (by omega), hs.blk h.lit (by decide) hl, h.below.trans (hb.mono (by omega))⟩
  rw [List.take_add_one, hx]
  simpa [List.flatMap_append, List.append_assoc] using hw

set_option maxHeartbeats 8000000 in
set_option maxRecDepth 100000 in
theorem inode_made (a0 a1 a2 a3 a4 a5 a6 : Int) (k : ByteArray) (w : World) (h : rightInode a0 a1 a2 a3 a4 a5 a6 = true) (hk : node_InodeKey.f a0 = some k) :
    Calls Try.prog 32 #[.agg #[.int .i64 a0, .int .i64 a1, .int .i64 a2, .int .i64 a3, .int .i64 a4, .int .i64 a5, .int .i64 a6]] w fun e w' => e = .returned (.tuple #[.agg #[.string k, .string (strOfNums (inodeBytes a1 a2 a3 a4 a5 a6)), .bool false], .int .i64 0]) ∧ Below w.heap.size w w' := by
  have hu52 := Try.underlying52
  have hu32 := Try.underlying32
  have HR := Aside0.mk (show node_right.f a0 a1 a2 a3 a4 a5 a6 = some true by unfold node_right.f; rw [h])
  obtain ⟨b0, b1, b2, b3, b4, b5, b6⟩ := rightInode_bounds h
  have HK := Aside0.mk hk
  have HP1 := Aside0.mk (put_f a1 (by omega) (by omega)).1
  have HP6 := Aside0.mk (put_f a6 (by omega) (by omega)).2.2
  have HPx := Aside0.mk (fun (x : Int) (hx : 0 ≤ x ∧ x ≤ 65535) => (put_f x hx.1 (by omega)).2.1)
  have HQ2 := Aside0.mk (HPx.out a2 (by omega)); have HQ3 := Aside0.mk (HPx.out a3 (by omega)); have HQ4 := Aside0.mk (HPx.out a4 (by omega)); have HQ5 := Aside0.mk (HPx.out a5 (by omega))
  have HM1 := Aside0.mk (fun x : Int => show (leBytes x 1).length ≤ 8 by simp [leBytes])
  have HM2 := Aside0.mk (fun x : Int => show (leBytes x 2).length ≤ 8 by simp [leBytes])
  have HM4 := Aside0.mk (fun x : Int => show (leBytes x 4).length ≤ 8 by simp [leBytes])
  have HL0 := Aside0.mk (show ([] : List Int).length ≤ 1000000 by simp)
  clear h hk HPx b0 b1 b2 b3 b4 b5 b6
  go_enter Try.func32, Try.ntmps32
  go_wp2_with (first
    | (go_at_call 59; (with_reducible refine (node_right.calls a0 a1 a2 a3 a4 a5 a6 true _ HR.out).mono ?_); rintro e w1 ⟨rfl, hb1⟩
       have hr1 : Blk w1 (w.heap.size + 1) #[.string ⟨#[]⟩, .string ⟨#[]⟩, .bool false] 32 := by
         refine Blk.below ?_ hb1 (by simp)
         simpa using Blk.fresh (w.alloc (.cells #[.int .i64 a0, .int .i64 a1, .int .i64 a2, .int .i64 a3, .int .i64 a4, .int .i64 a5, .int .i64 a6] 52)) #[.string ⟨#[]⟩, .string ⟨#[]⟩, .bool false] 32
       have hp1 : Blk w1 w.heap.size #[.int .i64 a0, .int .i64 a1, .int .i64 a2, .int .i64 a3, .int .i64 a4, .int .i64 a5, .int .i64 a6] 52 := ((Blk.fresh w #[.int .i64 a0, .int .i64 a1, .int .i64 a2, .int .i64 a3, .int .i64 a4, .int .i64 a5, .int .i64 a6] 52).alloc _).below hb1 (by simp; omega)
       have HB1 := Aside0.mk ((below_alloc (below_alloc (Below.refl w.heap.size w) (.cells #[.int .i64 a0, .int .i64 a1, .int .i64 a2, .int .i64 a3, .int .i64 a4, .int .i64 a5, .int .i64 a6] 52)) (.cells #[.string ⟨#[]⟩, .string ⟨#[]⟩, .bool false] 32)).trans (hb1.mono (by simp; omega)))
       have HW1 := Aside0.mk (Writer.fresh w1); have hc1 := HW1.out.cell
       have HR1 := Aside0.mk (hr1.alloc (.cells #[.slice none 0 0] 69))
       have HP1' := Aside0.mk (hp1.alloc (.cells #[.slice none 0 0] 69))
       have d1 := HP1'.out.cell 1 _ rfl
       have HG1 := Aside0.mk (show w.heap.size + 1 < w1.heap.size by have := hr1.lt; omega)
       clear hr1 hp1 hb1)
    | (go_at_call 46; (with_reducible refine (put_calls w1.heap.size w1.heap.size _ [] (leBytes a1 1) a1 1 _ HW1.out HL0.out (HM1.out _) HP1.out).mono ?_); rintro e w2 ⟨rfl, v2, hw2, hb2, hs2⟩
       have HW2 := Aside0.mk hw2; have HB2 := Aside0.mk (HB1.out.trans (((below_alloc (Below.refl w1.heap.size w1) (.cells #[.slice none 0 0] 69)).trans hb2).mono (by have := HG1.out; omega)))
       have HR2 := Aside0.mk (hs2.blk HR1.out (by decide) (by have := HG1.out; omega))
       have HP2 := Aside0.mk (hs2.blk HP1'.out (by decide) (by have := HG1.out; omega))
       have e2 := HP2.out.cell 2 _ rfl; have e3 := HP2.out.cell 3 _ rfl; have e4 := HP2.out.cell 4 _ rfl; have e5 := HP2.out.cell 5 _ rfl
       clear hw2 hb2 hs2 hc1 d1))
  go_loopg [27] 4 (fun gk s27 wx => ∃ (i : Nat) (v : Value), i + gk = 4 ∧ s27 = .int .i64 i ∧ InodeHead w wx w1.heap.size w2.heap.size i a0 a1 a2 a3 a4 a5 a6 v)
  case atStart =>
    refine ⟨0, v2, rfl, rfl, ?_, HP2.out.alloc _, HR2.out.alloc _, Blk.fresh _ _ _, below_alloc HB2.out _⟩
    simpa using HW2.out.below (below_alloc (Below.refl _ _) _)
  case round =>
    obtain ⟨i, v, hig, rfl, hh⟩ := hrel
    cases gk with
    | zero =>
      obtain rfl : i = 4 := by omega
      have HH := Aside0.mk hh
      have p0 := hh.par.cell 0 _ rfl; have p6 := hh.par.cell 6 _ rfl
      have HLx := Aside0.mk (show (leBytes a1 1 ++ ([a2, a3, a4, a5].take 4).flatMap fun x => leBytes x 2).length ≤ 1000000 by simp [leBytes])
      clear hh
      go_wp2_with (first
        | (go_at_call 46; (with_reducible refine (put_calls w1.heap.size w1.heap.size v _ (leBytes a6 4) a6 4 _ HH.out.wr HLx.out (HM4.out _) HP6.out).mono ?_); rintro e w3 ⟨rfl, v3, hw3, hb3, hs3⟩
           have HW3 := Aside0.mk hw3; have HB3 := Aside0.mk (HH.out.below.trans (hb3.mono (by have := HG1.out; omega)))
           have HR3 := Aside0.mk (hs3.blk HH.out.res (by decide) (by have := HG1.out; omega))
           have HP3 := Aside0.mk (hs3.blk HH.out.par (by decide) (by have := HG1.out; omega))
           have q0 := HP3.out.cell 0 _ rfl
           have hc3 := hw3.cell
           have hcv := Writer.text (Writer.below hw3 (below_drew (Below.refl _ _)))
           clear hw3 hb3 hs3 p0 p6))
      go_region_law (
         refine goes_ Try.func16 (by kernel_rfl) rfl #[.int .i64 a0] (by rfl) rfl rfl (by first | rfl | (simp [Act.eval, Act.put]; done) | (simp [Act.eval]; done)) ?_
         refine (node_InodeKey.calls a0 k _ HK.out).mono ?_
         rintro e w4 ⟨rfl, hb4⟩
         refine ⟨_, rfl, ?_⟩
         have hb34 : Below w3.heap.size w3 w4 := (below_drew (Below.refl w3.heap.size w3)).trans hb4
         have hw4 := HW3.out.below hb34
         have hc4 := hw4.cell
         have hcv4 := hw4.text
         have hr4 := HR3.out.below hb34 HR3.out.lt
         have c0 := hr4.cell 0 _ rfl; have c1 := hr4.cell 1 _ rfl; have c2 := hr4.cell 2 _ rfl
         have f0 := hr4.frozen 0; have f1 := hr4.frozen 1; have f2 := hr4.frozen 2
         have HR4 := Aside0.mk hr4
         have HB4 := Aside0.mk (HB3.out.trans (hb34.mono HB3.out.size))
         clear hw4 hr4 hb4 hb34)
      all_goals
        go_wp2
        obtain ⟨hs, hb⟩ := stored HR4.out HB4.out (Nat.le_succ _) k (strOfNums ((leBytes a1 1 ++ ([a2, a3, a4, a5].take 4).flatMap fun x => leBytes x 2) ++ leBytes a6 4))
        refine bodyPost_ret (results_ct rfl _ _ (w.heap.size + 1) 32 #[.string k, .string (strOfNums ((leBytes a1 1 ++ ([a2, a3, a4, a5].take 4).flatMap fun x => leBytes x 2) ++ leBytes a6 4)), .bool false] (0, 0) _ rfl hs Try.underlying32 rfl (by kernel_rfl)) rfl ?_
        refine ⟨?_, hb⟩
        have he : strOfNums (inodeBytes a1 a2 a3 a4 a5 a6) = strOfNums ((leBytes a1 1 ++ ([a2, a3, a4, a5].take 4).flatMap fun x => leBytes x 2) ++ leBytes a6 4) := by simp [inodeBytes, List.append_assoc]
        rw [he]
        rfl
    | succ gk =>
      have hi : i = 0 ∨ i = 1 ∨ i = 2 ∨ i = 3 := by omega
      rcases hi with rfl | rfl | rfl | rfl
      · have l0 := hh.lit.cell 0 _ rfl
        have HH := Aside0.mk hh
        have HLx := Aside0.mk (show (leBytes a1 1 ++ ([a2, a3, a4, a5].take 0).flatMap fun x => leBytes x 2).length ≤ 1000000 by simp [leBytes])
        clear hh
        go_wp2_with (first
          | (go_at_call 46; (with_reducible refine (put_calls w1.heap.size w1.heap.size v _ (leBytes a2 2) a2 2 _ HH.out.wr HLx.out (HM2.out _) HQ2.out).mono ?_); rintro e w3 ⟨rfl, v3, hw3, hb3, hs3⟩))
        go_roundg 3
        case measure => omega
        case rel => exact ⟨1, v3, by omega, rfl, HH.out.next HG1.out (by have := HW2.out.lt; omega) rfl hw3 hb3 hs3⟩
      · have l1 := hh.lit.cell 1 _ rfl
        have HH := Aside0.mk hh
        have HLx := Aside0.mk (show (leBytes a1 1 ++ ([a2, a3, a4, a5].take 1).flatMap fun x => leBytes x 2).length ≤ 1000000 by simp [leBytes])
        clear hh
        go_wp2_with (first
          | (go_at_call 46; (with_reducible refine (put_calls w1.heap.size w1.heap.size v _ (leBytes a3 2) a3 2 _ HH.out.wr HLx.out (HM2.out _) HQ3.out).mono ?_); rintro e w3 ⟨rfl, v3, hw3, hb3, hs3⟩))
        go_roundg 2
        case measure => omega
        case rel => exact ⟨2, v3, by omega, rfl, HH.out.next HG1.out (by have := HW2.out.lt; omega) rfl hw3 hb3 hs3⟩
      · have l2 := hh.lit.cell 2 _ rfl
        have HH := Aside0.mk hh
        have HLx := Aside0.mk (show (leBytes a1 1 ++ ([a2, a3, a4, a5].take 2).flatMap fun x => leBytes x 2).length ≤ 1000000 by simp [leBytes])
        clear hh
        go_wp2_with (first
          | (go_at_call 46; (with_reducible refine (put_calls w1.heap.size w1.heap.size v _ (leBytes a4 2) a4 2 _ HH.out.wr HLx.out (HM2.out _) HQ4.out).mono ?_); rintro e w3 ⟨rfl, v3, hw3, hb3, hs3⟩))
        go_roundg 1
        case measure => omega
        case rel => exact ⟨3, v3, by omega, rfl, HH.out.next HG1.out (by have := HW2.out.lt; omega) rfl hw3 hb3 hs3⟩
      · have l3 := hh.lit.cell 3 _ rfl
        have HH := Aside0.mk hh
        have HLx := Aside0.mk (show (leBytes a1 1 ++ ([a2, a3, a4, a5].take 3).flatMap fun x => leBytes x 2).length ≤ 1000000 by simp [leBytes])
        clear hh
        go_wp2_with (first
          | (go_at_call 46; (with_reducible refine (put_calls w1.heap.size w1.heap.size v _ (leBytes a5 2) a5 2 _ HH.out.wr HLx.out (HM2.out _) HQ5.out).mono ?_); rintro e w3 ⟨rfl, v3, hw3, hb3, hs3⟩))
        go_roundg 0
        case measure => omega
        case rel => exact ⟨4, v3, by omega, rfl, HH.out.next HG1.out (by have := HW2.out.lt; omega) rfl hw3 hb3 hs3⟩

theorem node_Inode.calls (a0_0 : Int) (a0_1 : Int) (a0_2 : Int) (a0_3 : Int) (a0_4 : Int) (a0_5 : Int) (a0_6 : Int) (r1 : ByteArray) (r2 : ByteArray) (r3 : Bool) (r4 : Int) (w : World) (h : node_Inode.f a0_0 a0_1 a0_2 a0_3 a0_4 a0_5 a0_6 = some (r1, r2, r3, r4)) :
    Calls Try.prog 32 #[.agg #[.int .i64 a0_0, .int .i64 a0_1, .int .i64 a0_2, .int .i64 a0_3, .int .i64 a0_4, .int .i64 a0_5, .int .i64 a0_6]] w fun e w' => e = .returned (.tuple #[.agg #[.string r1, .string r2, .bool r3], .int .i64 r4]) ∧ Below w.heap.size w w' := by
  unfold node_Inode.f at h
  split at h
  · rename_i hr
    obtain ⟨k, hk, h⟩ := Option.bind_eq_some_iff.mp h
    cases h
    exact inode_made _ _ _ _ _ _ _ _ w hr hk
  · rename_i hr
    cases h
    exact inode_refused _ _ _ _ _ _ _ w (Bool.eq_false_iff.mpr hr)
end Go.Proofs.Ytakchpeohmkpkaa.Q

namespace Go.Proofs.Ytakchpeohmkpkaa.Q
open Go.RowKit Go.Proofs.YtakchpeohmkpkaaW.PrintWords Go.Proofs.YtakchpeohmkpkaaW.PrintLast Go.Proofs.YtakchpeohmkpkaaW.PrintMore
attribute [local go_sem] max2_int min2_int max_two min_two max_three min_three max_four min_four   -- for this text's walks alone
set_option linter.unusedVariables false
set_option linter.unusedSimpArgs false

/-! ### pumicelaw06_alive: function 10 -/
def pumicelaw06_alive.f  : Option (Bool) := (node_Inode.f 1 2 493 0 0 2 0).bind fun bt135 => ((node_Pack.f bt135.1 bt135.2.1 bt135.2.2.1).bind fun bt140 => ((node_Mark.f 5 2).bind fun bt144 => ((node_Inode.f 1 2 512 0 0 0 0).bind fun bt148 => ((node_EntryKey.f 258 (⟨#[97]⟩ : ByteArray)).bind fun t153 => (if t153.toList = ([1, 2, 2, 97] : List UInt8) then ((node_OrphanKey.f 7).bind fun t154 => (if t154.toList = ([0, 0, 4, 0, 7] : List UInt8) then (if bt135.2.2.2 = 0 then (if (bt135.2.1.size : Int) = 13 then (if bt140.2 = 0 then (if (bt140.1.length : Int) = 20 then (if (bt144.1.length : Int) = 10 then (if bt144.2 = 0 then (some (bt148.2.2.2 == 22)) else (none)) else (none)) else (none)) else (none)) else (none)) else (none)) else (none))) else (none))))))
set_option maxHeartbeats 8000000 in
set_option maxRecDepth 100000 in
theorem pumicelaw06_alive.calls  (r : Bool) (w : World) (h : pumicelaw06_alive.f  = some r) :
    Calls Try.prog 10 #[] w fun e w' => e = .returned (.bool r) ∧ Below w.heap.size w w' := by
  have hu52 := Try.underlying52
  have hu32 := Try.underlying32
  have HB := Aside0.mk (Below.refl w.heap.size w)
  have H : ((node_Inode.f 1 2 493 0 0 2 0).bind fun bt135 => ((node_Pack.f bt135.1 bt135.2.1 bt135.2.2.1).bind fun bt140 => ((node_Mark.f 5 2).bind fun bt144 => ((node_Inode.f 1 2 512 0 0 0 0).bind fun bt148 => ((node_EntryKey.f 258 (⟨#[97]⟩ : ByteArray)).bind fun t153 => (if t153.toList = ([1, 2, 2, 97] : List UInt8) then ((node_OrphanKey.f 7).bind fun t154 => (if t154.toList = ([0, 0, 4, 0, 7] : List UInt8) then (if bt135.2.2.2 = 0 then (if (bt135.2.1.size : Int) = 13 then (if bt140.2 = 0 then (if (bt140.1.length : Int) = 20 then (if (bt144.1.length : Int) = 10 then (if bt144.2 = 0 then (some (bt148.2.2.2 == 22)) else (none)) else (none)) else (none)) else (none)) else (none)) else (none)) else (none))) else (none))))))) = some r := h
  clear h
  replace H := Option.bind_eq_some_iff.mp H
  obtain ⟨⟨t135, t136, t137, t138⟩, A10, H⟩ := H
  replace H : ((node_Pack.f t135 t136 t137).bind fun bt140 => ((node_Mark.f 5 2).bind fun bt144 => ((node_Inode.f 1 2 512 0 0 0 0).bind fun bt148 => ((node_EntryKey.f 258 (⟨#[97]⟩ : ByteArray)).bind fun t153 => (if t153.toList = ([1, 2, 2, 97] : List UInt8) then ((node_OrphanKey.f 7).bind fun t154 => (if t154.toList = ([0, 0, 4, 0, 7] : List UInt8) then (if t138 = 0 then (if (t136.size : Int) = 13 then (if bt140.2 = 0 then (if (bt140.1.length : Int) = 20 then (if (bt144.1.length : Int) = 10 then (if bt144.2 = 0 then (some (bt148.2.2.2 == 22)) else (none)) else (none)) else (none)) else (none)) else (none)) else (none)) else (none))) else (none)))))) = some r := H
  have A1 := Aside0.mk A10
  clear A10
  replace H := Option.bind_eq_some_iff.mp H
  obtain ⟨⟨t140, t143⟩, A20, H⟩ := H
  replace H : ((node_Mark.f 5 2).bind fun bt144 => ((node_Inode.f 1 2 512 0 0 0 0).bind fun bt148 => ((node_EntryKey.f 258 (⟨#[97]⟩ : ByteArray)).bind fun t153 => (if t153.toList = ([1, 2, 2, 97] : List UInt8) then ((node_OrphanKey.f 7).bind fun t154 => (if t154.toList = ([0, 0, 4, 0, 7] : List UInt8) then (if t138 = 0 then (if (t136.size : Int) = 13 then (if t143 = 0 then (if (t140.length : Int) = 20 then (if (bt144.1.length : Int) = 10 then (if bt144.2 = 0 then (some (bt148.2.2.2 == 22)) else (none)) else (none)) else (none)) else (none)) else (none)) else (none)) else (none))) else (none))))) = some r := H
  have A2 := Aside0.mk A20
  clear A20
  replace H := Option.bind_eq_some_iff.mp H
  obtain ⟨⟨t144, t145⟩, A30, H⟩ := H
  replace H : ((node_Inode.f 1 2 512 0 0 0 0).bind fun bt148 => ((node_EntryKey.f 258 (⟨#[97]⟩ : ByteArray)).bind fun t153 => (if t153.toList = ([1, 2, 2, 97] : List UInt8) then ((node_OrphanKey.f 7).bind fun t154 => (if t154.toList = ([0, 0, 4, 0, 7] : List UInt8) then (if t138 = 0 then (if (t136.size : Int) = 13 then (if t143 = 0 then (if (t140.length : Int) = 20 then (if (t144.length : Int) = 10 then (if t145 = 0 then (some (bt148.2.2.2 == 22)) else (none)) else (none)) else (none)) else (none)) else (none)) else (none)) else (none))) else (none)))) = some r := H
  have A3 := Aside0.mk A30
  clear A30
  replace H := Option.bind_eq_some_iff.mp H
  obtain ⟨⟨t148, t149, t150, t151⟩, A40, H⟩ := H
  replace H : ((node_EntryKey.f 258 (⟨#[97]⟩ : ByteArray)).bind fun t153 => (if t153.toList = ([1, 2, 2, 97] : List UInt8) then ((node_OrphanKey.f 7).bind fun t154 => (if t154.toList = ([0, 0, 4, 0, 7] : List UInt8) then (if t138 = 0 then (if (t136.size : Int) = 13 then (if t143 = 0 then (if (t140.length : Int) = 20 then (if (t144.length : Int) = 10 then (if t145 = 0 then (some (t151 == 22)) else (none)) else (none)) else (none)) else (none)) else (none)) else (none)) else (none))) else (none))) = some r := H
  have A4 := Aside0.mk A40
  clear A40
  replace H := Option.bind_eq_some_iff.mp H
  obtain ⟨t153, A50, H⟩ := H
  replace H : (if t153.toList = ([1, 2, 2, 97] : List UInt8) then ((node_OrphanKey.f 7).bind fun t154 => (if t154.toList = ([0, 0, 4, 0, 7] : List UInt8) then (if t138 = 0 then (if (t136.size : Int) = 13 then (if t143 = 0 then (if (t140.length : Int) = 20 then (if (t144.length : Int) = 10 then (if t145 = 0 then (some (t151 == 22)) else (none)) else (none)) else (none)) else (none)) else (none)) else (none)) else (none))) else (none)) = some r := H
  have A5 := Aside0.mk A50
  clear A50
  by_cases c6 : t153.toList = ([1, 2, 2, 97] : List UInt8)
  · rw [if_pos c6] at H
    have c6b0 : (t153.toList == ([1, 2, 2, 97] : List UInt8)) = true := beq_iff_eq.mpr c6
    have c6b1 : (t153.toList != ([1, 2, 2, 97] : List UInt8)) = false := bne_eq_false_iff_eq.mpr c6
    clear c6
    replace H := Option.bind_eq_some_iff.mp H
    obtain ⟨t154, A70, H⟩ := H
    replace H : (if t154.toList = ([0, 0, 4, 0, 7] : List UInt8) then (if t138 = 0 then (if (t136.size : Int) = 13 then (if t143 = 0 then (if (t140.length : Int) = 20 then (if (t144.length : Int) = 10 then (if t145 = 0 then (some (t151 == 22)) else (none)) else (none)) else (none)) else (none)) else (none)) else (none)) else (none)) = some r := H
    have A7 := Aside0.mk A70
    clear A70
    by_cases c8 : t154.toList = ([0, 0, 4, 0, 7] : List UInt8)
    · rw [if_pos c8] at H
      have c8b0 : (t154.toList == ([0, 0, 4, 0, 7] : List UInt8)) = true := beq_iff_eq.mpr c8
      have c8b1 : (t154.toList != ([0, 0, 4, 0, 7] : List UInt8)) = false := bne_eq_false_iff_eq.mpr c8
      clear c8
      by_cases c9 : t138 = 0
      · rw [if_pos c9] at H
        have c9b0 : (t138 == 0) = true := beq_iff_eq.mpr c9
        have c9b1 : (t138 != 0) = false := bne_eq_false_iff_eq.mpr c9
        clear c9
        by_cases c10 : (t136.size : Int) = 13
        · rw [if_pos c10] at H
          have c10b0 : ((t136.size : Int) == 13) = true := beq_iff_eq.mpr c10
          have c10b1 : ((t136.size : Int) != 13) = false := bne_eq_false_iff_eq.mpr c10
          clear c10
          by_cases c11 : t143 = 0
          · rw [if_pos c11] at H
            have c11b0 : (t143 == 0) = true := beq_iff_eq.mpr c11
            have c11b1 : (t143 != 0) = false := bne_eq_false_iff_eq.mpr c11
            clear c11
            by_cases c12 : (t140.length : Int) = 20
            · rw [if_pos c12] at H
              have c12b0 : ((t140.length : Int) == 20) = true := beq_iff_eq.mpr c12
              have c12b1 : ((t140.length : Int) != 20) = false := bne_eq_false_iff_eq.mpr c12
              clear c12
              by_cases c13 : (t144.length : Int) = 10
              · rw [if_pos c13] at H
                have c13b0 : ((t144.length : Int) == 10) = true := beq_iff_eq.mpr c13
                have c13b1 : ((t144.length : Int) != 10) = false := bne_eq_false_iff_eq.mpr c13
                clear c13
                by_cases c14 : t145 = 0
                · rw [if_pos c14] at H
                  have c14b0 : (t145 == 0) = true := beq_iff_eq.mpr c14
                  have c14b1 : (t145 != 0) = false := bne_eq_false_iff_eq.mpr c14
                  clear c14
                  obtain rfl := Option.some.inj H
                  go_enter Try.func10, Try.ntmps10
                  go_wp2_with (first | ((with_reducible refine gate_callee (f := 32) rfl ?_); refine goesL_ (some 11) rfl rfl Try.func32 (by kernel_rfl) rfl #[.agg #[.int .i64 1, .int .i64 2, .int .i64 493, .int .i64 0, .int .i64 0, .int .i64 2, .int .i64 0]] rfl (by (try simp only [List.map_toArray, List.map_cons, List.map_nil]); first | done | rfl | (simp only [List.length_drop, List.length_take]; rfl)) ?_; (with_reducible refine (node_Inode.calls 1 2 493 0 0 2 0 t135 t136 t137 t138 _ A1.out).mono ?_); rintro e w15 ⟨rfl, hb⟩; refine ⟨_, rfl, ?_⟩; have n0_ := Aside0.mk (below_step (by repeat (first | (with_reducible first | exact HB.out | apply below_alloc | apply pw_below_drewN | apply below_drew1) | exact HB.out)) hb); clear HB; have HB := n0_; clear n0_; (try clear hb); (try clear hb2); (try clear hk); (try clear hi)) | ((with_reducible refine gate_dst (N := 1) rfl ?_); (try (refine gate_guard (by rfl) ?_; dsimp only)); refine box_event ?hg (N := 1) ?hd (cs := #[.string (⟨#[]⟩ : ByteArray), .string (⟨#[]⟩ : ByteArray), .bool false]) (t := 32) ?hr ?_; (case hd => rfl); (case hg => rfl); (case hr => first | (go_simp; done) | (go_simp; rfl)); intro gb139 hg w16 hbox hb; have n0_ := Aside0.mk (below_step (by repeat (first | (with_reducible first | exact HB.out | apply below_alloc | apply pw_below_drewN | apply below_drew1) | exact HB.out)) hb); have n1_ := Aside0.mk (hbox); have n2_ := Aside0.mk ((by rw [hg]; exact (below_size (by repeat (first | (with_reducible first | exact HB.out | apply below_alloc | apply pw_below_drewN | apply below_drew1) | exact HB.out))) : w.heap.size ≤ gb139)); have n3_ := Aside0.mk ((by rw [hg]; exact (below_size (by repeat (first | (with_reducible first | exact HB.out | apply below_alloc | apply pw_below_drewN | apply below_drew1) | exact HB.out))) : w.heap.size ≤ gb139)); clear HB; have HB := n0_; have BK139 := n1_; have GW139 := n2_; have GE139 := n3_; clear n0_ n1_ n2_ n3_; clear hb hbox hg; have hcz17_0 : w16.cell? ⟨gb139, 0, none⟩ = some (.string (⟨#[]⟩ : ByteArray)) := (blk_cell BK139.out 0).trans rfl; have hcz17_1 : w16.cell? ⟨gb139, 1, none⟩ = some (.string (⟨#[]⟩ : ByteArray)) := (blk_cell BK139.out 1).trans rfl; have hcz17_2 : w16.cell? ⟨gb139, 2, none⟩ = some (.bool false) := (blk_cell BK139.out 2).trans rfl; have hfz17_0 := blk_frozen BK139.out 0; have hfz17_1 := blk_frozen BK139.out 1; have hfz17_2 := blk_frozen BK139.out 2) | ((with_reducible refine gate_callee (f := 18) rfl ?_); refine goesL_ (some 16) rfl rfl Try.func18 (by kernel_rfl) rfl #[.agg #[.string t135, .string t136, .bool t137]] rfl (by (try simp only [List.map_toArray, List.map_cons, List.map_nil]); first | done | rfl | (simp only [List.length_drop, List.length_take]; rfl)) ?_; (with_reducible refine (node_Pack.calls t135 t136 t137 t140 t143 _ A2.out).mono ?_); rintro e w18 ⟨v141, rfl, ho0, hb⟩; refine ⟨_, rfl, ?_⟩; have n0_ := Aside0.mk (Kd.R_lower ho0 (below_size (by repeat (first | (with_reducible first | exact HB.out | apply below_alloc | apply pw_below_drewN | apply below_drew1 | refine below_set ?_ GE139.out) | exact HB.out)))); have n1_ := Aside0.mk (blk_below (g := gb139) (o := .cells #[.string t135, .string t136, .bool t137] 32 (0, 0)) (by (with_reducible repeat (first | refine blk_drewN ?_ _ | refine blk_drew ?_ | refine blk_alloc ?_ _)); refine blk_put (cs := #[.string t135, .string t136, .bool false]) ?_ 2 _ rfl; (with_reducible repeat (first | refine blk_drewN ?_ _ | refine blk_drew ?_ | refine blk_alloc ?_ _)); refine blk_put (cs := #[.string t135, .string (⟨#[]⟩ : ByteArray), .bool false]) ?_ 1 _ rfl; (with_reducible repeat (first | refine blk_drewN ?_ _ | refine blk_drew ?_ | refine blk_alloc ?_ _)); refine blk_put (cs := #[.string (⟨#[]⟩ : ByteArray), .string (⟨#[]⟩ : ByteArray), .bool false]) ?_ 0 _ rfl; (with_reducible repeat (first | refine blk_drewN ?_ _ | refine blk_drew ?_ | refine blk_alloc ?_ _)); exact BK139.out) hb); have n2_ := Aside0.mk (below_step (by repeat (first | (with_reducible first | exact HB.out | apply below_alloc | apply pw_below_drewN | apply below_drew1 | refine below_set ?_ GE139.out) | exact HB.out)) hb); clear BK139; clear HB; have HO142 := n0_; have BK139 := n1_; have HB := n2_; clear n0_ n1_ n2_; (try clear hb); (try clear hb2); (try clear hk); (try clear hi); (try clear ho0)) | ((with_reducible refine gate_callee (f := 20) rfl ?_); refine goesL_ (some 20) rfl rfl Try.func20 (by kernel_rfl) rfl #[.int .u64 5, .int .i64 2] rfl (by (try simp only [List.map_toArray, List.map_cons, List.map_nil]); first | done | rfl | (simp only [List.length_drop, List.length_take]; rfl)) ?_; (with_reducible refine (node_Mark.calls 5 2 t144 t145 _ A3.out).mono ?_); rintro e w19 ⟨v146, rfl, ho0, hb⟩; refine ⟨_, rfl, ?_⟩; have n0_ := Aside0.mk (Kd.R_elder' (by (with_reducible repeat (first | apply Kd.R_alloc | apply Kd.R_drewN | apply Kd.R_drew)); exact HO142.out) (Kd.R_base ho0) hb); have n1_ := Aside0.mk (Kd.R_lower (Kd.R_new' ho0 (Kd.R_lt (by (with_reducible repeat (first | apply Kd.R_alloc | apply Kd.R_drewN | apply Kd.R_drew)); exact HO142.out))) (below_size (by repeat (first | (with_reducible first | exact HB.out | apply below_alloc | apply pw_below_drewN | apply below_drew1 | refine below_set ?_ GE139.out) | exact HB.out)))); have n2_ := Aside0.mk (blk_below (g := gb139) (o := .cells #[.string t135, .string t136, .bool t137] 32 (0, 0)) (by (with_reducible repeat (first | refine blk_drewN ?_ _ | refine blk_drew ?_ | refine blk_alloc ?_ _)); exact BK139.out) hb); have n3_ := Aside0.mk (below_step (by repeat (first | (with_reducible first | exact HB.out | apply below_alloc | apply pw_below_drewN | apply below_drew1 | refine below_set ?_ GE139.out) | exact HB.out)) hb); clear HO142; clear BK139; clear HB; have HO142 := n0_; have HO147 := n1_; have BK139 := n2_; have HB := n3_; clear n0_ n1_ n2_ n3_; (try clear hb); (try clear hb2); (try clear hk); (try clear hi); (try clear ho0)) | ((with_reducible refine gate_callee (f := 32) rfl ?_); refine goesL_ (some 25) rfl rfl Try.func32 (by kernel_rfl) rfl #[.agg #[.int .i64 1, .int .i64 2, .int .i64 512, .int .i64 0, .int .i64 0, .int .i64 0, .int .i64 0]] rfl (by (try simp only [List.map_toArray, List.map_cons, List.map_nil]); first | done | rfl | (simp only [List.length_drop, List.length_take]; rfl)) ?_; (with_reducible refine (node_Inode.calls 1 2 512 0 0 0 0 t148 t149 t150 t151 _ A4.out).mono ?_); rintro e w20 ⟨rfl, hb⟩; refine ⟨_, rfl, ?_⟩; have n0_ := Aside0.mk (Kd.R_below (by (with_reducible repeat (first | apply Kd.R_alloc | apply Kd.R_drewN | apply Kd.R_drew)); exact HO142.out) hb); have n1_ := Aside0.mk (Kd.R_below (by (with_reducible repeat (first | apply Kd.R_alloc | apply Kd.R_drewN | apply Kd.R_drew)); exact HO147.out) hb); have n2_ := Aside0.mk (blk_below (g := gb139) (o := .cells #[.string t135, .string t136, .bool t137] 32 (0, 0)) (by (with_reducible repeat (first | refine blk_drewN ?_ _ | refine blk_drew ?_ | refine blk_alloc ?_ _)); exact BK139.out) hb); have n3_ := Aside0.mk (below_step (by repeat (first | (with_reducible first | exact HB.out | apply below_alloc | apply pw_below_drewN | apply below_drew1 | refine below_set ?_ GE139.out) | exact HB.out)) hb); clear HO142; clear HO147; clear BK139; clear HB; have HO142 := n0_; have HO147 := n1_; have BK139 := n2_; have HB := n3_; clear n0_ n1_ n2_ n3_; (try clear hb); (try clear hb2); (try clear hk); (try clear hi)) | ((with_reducible refine gate_dst (N := 7) rfl ?_); (try (refine gate_guard (by rfl) ?_; dsimp only)); refine box_event ?hg (N := 7) ?hd (cs := #[.string (⟨#[]⟩ : ByteArray), .string (⟨#[]⟩ : ByteArray), .bool false]) (t := 32) ?hr ?_; (case hd => rfl); (case hg => rfl); (case hr => first | (go_simp; done) | (go_simp; rfl)); intro gb152 hg w21 hbox hb; have n0_ := Aside0.mk (Kd.R_below (by (with_reducible repeat (first | apply Kd.R_alloc | apply Kd.R_drewN | apply Kd.R_drew)); exact HO142.out) hb); have n1_ := Aside0.mk (Kd.R_below (by (with_reducible repeat (first | apply Kd.R_alloc | apply Kd.R_drewN | apply Kd.R_drew)); exact HO147.out) hb); have n2_ := Aside0.mk (blk_below (g := gb139) (o := .cells #[.string t135, .string t136, .bool t137] 32 (0, 0)) (by (with_reducible repeat (first | refine blk_drewN ?_ _ | refine blk_drew ?_ | refine blk_alloc ?_ _)); exact BK139.out) hb); have n3_ := Aside0.mk (below_step (by repeat (first | (with_reducible first | exact HB.out | apply below_alloc | apply pw_below_drewN | apply below_drew1 | refine below_set ?_ GE139.out) | exact HB.out)) hb); have n4_ := Aside0.mk (hbox); have n5_ := Aside0.mk ((by rw [hg]; exact (below_size (by repeat (first | (with_reducible first | exact HB.out | apply below_alloc | apply pw_below_drewN | apply below_drew1 | refine below_set ?_ GE139.out) | exact HB.out))) : w.heap.size ≤ gb152)); have n6_ := Aside0.mk ((by rw [hg]; exact (below_size (by repeat (first | (with_reducible first | exact HB.out | apply below_alloc | apply pw_below_drewN | apply below_drew1 | refine below_set ?_ GE139.out) | exact HB.out))) : w.heap.size ≤ gb152)); have n7_ := Aside0.mk ((by rw [hg]; exact Nat.ne_of_lt (blk_lt (g := gb139) (o := .cells #[.string t135, .string t136, .bool t137] 32 (0, 0)) (by (with_reducible repeat (first | refine blk_drewN ?_ _ | refine blk_drew ?_ | refine blk_alloc ?_ _)); exact BK139.out)) : gb139 ≠ gb152)); have n8_ := Aside0.mk ((by rw [hg]; exact Nat.ne_of_gt (blk_lt (g := gb139) (o := .cells #[.string t135, .string t136, .bool t137] 32 (0, 0)) (by (with_reducible repeat (first | refine blk_drewN ?_ _ | refine blk_drew ?_ | refine blk_alloc ?_ _)); exact BK139.out)) : gb152 ≠ gb139)); clear HO142; clear HO147; clear BK139; clear HB; have HO142 := n0_; have HO147 := n1_; have BK139 := n2_; have HB := n3_; have BK152 := n4_; have GW152 := n5_; have GE152 := n6_; have NB139_152 := n7_; have NB152_139 := n8_; clear n0_ n1_ n2_ n3_ n4_ n5_ n6_ n7_ n8_; clear hb hbox hg; have hnb22 := NB152_139.out; have hnc22 := NB139_152.out; have hcz23_0 : w21.cell? ⟨gb152, 0, none⟩ = some (.string (⟨#[]⟩ : ByteArray)) := (blk_cell BK152.out 0).trans rfl; have hcz23_1 : w21.cell? ⟨gb152, 1, none⟩ = some (.string (⟨#[]⟩ : ByteArray)) := (blk_cell BK152.out 1).trans rfl; have hcz23_2 : w21.cell? ⟨gb152, 2, none⟩ = some (.bool false) := (blk_cell BK152.out 2).trans rfl; have hfz23_0 := blk_frozen BK152.out 0; have hfz23_1 := blk_frozen BK152.out 1; have hfz23_2 := blk_frozen BK152.out 2) | ((with_reducible refine gate_callee (f := 12) rfl ?_); refine goesL_ (some 28) rfl rfl Try.func12 (by kernel_rfl) rfl #[.int .i64 258, .string (⟨#[97]⟩ : ByteArray)] rfl (by (try simp only [List.map_toArray, List.map_cons, List.map_nil]); first | done | rfl | (simp only [List.length_drop, List.length_take]; rfl)) ?_; (with_reducible refine (node_EntryKey.calls 258 (⟨#[97]⟩ : ByteArray) t153 _ A5.out).mono ?_); rintro e w24 ⟨rfl, hb⟩; refine ⟨_, rfl, ?_⟩; have n0_ := Aside0.mk (Kd.R_below (by (with_reducible repeat (first | apply Kd.R_alloc | apply Kd.R_drewN | apply Kd.R_drew)); exact (Kd.R_mono (Kd.R_far (p := ⟨gb152, 2, none⟩) (Kd.R_far (p := ⟨gb152, 1, none⟩) (Kd.R_far (p := ⟨gb152, 0, none⟩) (Kd.R_types HO142.out BK152.out (by decide)) (fun _ hk => hk.2) (.string t148)) (fun _ hk => hk.2) (.string t149)) (fun _ hk => hk.2) (.bool t150)) (fun _ h_ => h_.1))) hb); have n1_ := Aside0.mk (Kd.R_below (by (with_reducible repeat (first | apply Kd.R_alloc | apply Kd.R_drewN | apply Kd.R_drew)); exact (Kd.R_mono (Kd.R_far (p := ⟨gb152, 2, none⟩) (Kd.R_far (p := ⟨gb152, 1, none⟩) (Kd.R_far (p := ⟨gb152, 0, none⟩) (Kd.R_types HO147.out BK152.out (by decide)) (fun _ hk => hk.2) (.string t148)) (fun _ hk => hk.2) (.string t149)) (fun _ hk => hk.2) (.bool t150)) (fun _ h_ => h_.1))) hb); have n2_ := Aside0.mk (blk_below (g := gb139) (o := .cells #[.string t135, .string t136, .bool t137] 32 (0, 0)) (by (with_reducible repeat (first | refine blk_drewN ?_ _ | refine blk_drew ?_ | refine blk_alloc ?_ _)); refine blk_far ?_ NB139_152.out _; (with_reducible repeat (first | refine blk_drewN ?_ _ | refine blk_drew ?_ | refine blk_alloc ?_ _)); refine blk_far ?_ NB139_152.out _; (with_reducible repeat (first | refine blk_drewN ?_ _ | refine blk_drew ?_ | refine blk_alloc ?_ _)); refine blk_far ?_ NB139_152.out _; (with_reducible repeat (first | refine blk_drewN ?_ _ | refine blk_drew ?_ | refine blk_alloc ?_ _)); exact BK139.out) hb); have n3_ := Aside0.mk (blk_below (g := gb152) (o := .cells #[.string t148, .string t149, .bool t150] 32 (0, 0)) (by (with_reducible repeat (first | refine blk_drewN ?_ _ | refine blk_drew ?_ | refine blk_alloc ?_ _)); refine blk_put (cs := #[.string t148, .string t149, .bool false]) ?_ 2 _ rfl; (with_reducible repeat (first | refine blk_drewN ?_ _ | refine blk_drew ?_ | refine blk_alloc ?_ _)); refine blk_put (cs := #[.string t148, .string (⟨#[]⟩ : ByteArray), .bool false]) ?_ 1 _ rfl; (with_reducible repeat (first | refine blk_drewN ?_ _ | refine blk_drew ?_ | refine blk_alloc ?_ _)); refine blk_put (cs := #[.string (⟨#[]⟩ : ByteArray), .string (⟨#[]⟩ : ByteArray), .bool false]) ?_ 0 _ rfl; (with_reducible repeat (first | refine blk_drewN ?_ _ | refine blk_drew ?_ | refine blk_alloc ?_ _)); exact BK152.out) hb); have n4_ := Aside0.mk (below_step (by repeat (first | (with_reducible first | exact HB.out | apply below_alloc | apply pw_below_drewN | apply below_drew1 | refine below_set ?_ GE139.out | refine below_set ?_ GE152.out) | exact HB.out)) hb); clear HO142; clear HO147; clear BK139; clear BK152; clear HB; have HO142 := n0_; have HO147 := n1_; have BK139 := n2_; have BK152 := n3_; have HB := n4_; clear n0_ n1_ n2_ n3_ n4_; (try clear hb); (try clear hb2); (try clear hk); (try clear hi)) | (go_at_call 17; (with_reducible refine (node_OrphanKey.calls 7 t154 _ A7.out).mono ?_); rintro e w25 ⟨rfl, hb⟩; have n0_ := Aside0.mk (Kd.R_below (by (with_reducible repeat (first | apply Kd.R_alloc | apply Kd.R_drewN | apply Kd.R_drew)); exact HO142.out) hb); have n1_ := Aside0.mk (Kd.R_below (by (with_reducible repeat (first | apply Kd.R_alloc | apply Kd.R_drewN | apply Kd.R_drew)); exact HO147.out) hb); have n2_ := Aside0.mk (blk_below (g := gb139) (o := .cells #[.string t135, .string t136, .bool t137] 32 (0, 0)) (by (with_reducible repeat (first | refine blk_drewN ?_ _ | refine blk_drew ?_ | refine blk_alloc ?_ _)); exact BK139.out) hb); have n3_ := Aside0.mk (blk_below (g := gb152) (o := .cells #[.string t148, .string t149, .bool t150] 32 (0, 0)) (by (with_reducible repeat (first | refine blk_drewN ?_ _ | refine blk_drew ?_ | refine blk_alloc ?_ _)); exact BK152.out) hb); have n4_ := Aside0.mk (below_step (by repeat (first | (with_reducible first | exact HB.out | apply below_alloc | apply pw_below_drewN | apply below_drew1 | refine below_set ?_ GE139.out | refine below_set ?_ GE152.out) | exact HB.out)) hb); clear HO142; clear HO147; clear BK139; clear BK152; clear HB; have HO142 := n0_; have HO147 := n1_; have BK139 := n2_; have BK152 := n3_; have HB := n4_; clear n0_ n1_ n2_ n3_ n4_; (try clear hb); (try clear hb2); (try clear hk); (try clear hi); have hcz26_0 : w25.cell? ⟨gb139, 0, none⟩ = some (.string t135) := (blk_cell BK139.out 0).trans rfl; have hcz26_1 : w25.cell? ⟨gb139, 1, none⟩ = some (.string t136) := (blk_cell BK139.out 1).trans rfl; have hcz26_2 : w25.cell? ⟨gb139, 2, none⟩ = some (.bool t137) := (blk_cell BK139.out 2).trans rfl; have hfz26_0 := blk_frozen BK139.out 0; have hfz26_1 := blk_frozen BK139.out 1; have hfz26_2 := blk_frozen BK139.out 2; obtain ⟨Ao27, co27, eo27⟩ := Kd.R_slice HO142.out; subst eo27; obtain ⟨Ao28, co28, eo28⟩ := Kd.R_slice HO147.out; subst eo28))
                  go_ret
                  exact ⟨by first | rfl | exact isEmpty_bne_ _ | (simp [errW_none, errW_some] <;> rfl) | (simp [*, errW_none, errW_some] <;> rfl), by repeat (first | (with_reducible first | exact HB.out | apply below_alloc | apply pw_below_drewN | apply below_drew1 | refine below_set ?_ GE139.out | refine below_set ?_ GE152.out) | exact HB.out)⟩
                · rw [if_neg c14] at H
                  exact absurd H (by simp)
              · rw [if_neg c13] at H
                exact absurd H (by simp)
            · rw [if_neg c12] at H
              exact absurd H (by simp)
          · rw [if_neg c11] at H
            exact absurd H (by simp)
        · rw [if_neg c10] at H
          exact absurd H (by simp)
      · rw [if_neg c9] at H
        exact absurd H (by simp)
    · rw [if_neg c8] at H
      exact absurd H (by simp)
  · rw [if_neg c6] at H
    exact absurd H (by simp)

/-! ### pumiceref06_Mark: function 21 -/
def pumiceref06_Mark.f (k : Nat) (a0 : Int) (a1 : Int) : Option (List Int × Int) := if a1 < 1 then (some (([] : List Int), 22)) else (if a1 > 16 then (some (([] : List Int), 22)) else ((some (([3] : List Int) : List Int)).bind fun y155 => ((pumiceref01_Put.f k a0 8).bind fun t158 => (if y155.length + t158.length < 140737488355328 then ((some (y155 ++ t158 : List Int)).bind fun y161 => (if y161.length < 140737488355328 then (some ((y161 ++ [(a1) % 256]), 0)) else (none))) else (none)))))
theorem pumiceref06_Mark.mono : ∀ a0 a1 k, LeO (pumiceref06_Mark.f k a0 a1) (pumiceref06_Mark.f (k + 1) a0 a1) := by
  intro a0 a1 k
  unfold pumiceref06_Mark.f
  repeat' first
      | (with_reducible exact pumiceref01_Put.mono _ _ _)
      | (with_reducible exact LeO.refl _)
      | (with_reducible exact LeO.none _)
      | (with_reducible refine LeO.ite ?_ ?_)
      | (with_reducible refine LeO.bind ?_ (fun _ => ?_))
      | exact pumiceref01_Put.mono _ _ _
      | exact LeO.none _
      | refine LeO.ite ?_ ?_
      | refine LeO.bind ?_ (fun _ => ?_)
set_option maxHeartbeats 8000000 in
set_option maxRecDepth 100000 in
theorem pumiceref06_Mark.calls (k : Nat) (a0 : Int) (a1 : Int) (r1 : List Int) (r2 : Int) (w : World) (h : pumiceref06_Mark.f k a0 a1 = some (r1, r2)) :
    Calls Try.prog 21 #[.int .u64 a0, .int .i64 a1] w fun e w' => ∃ v0_ : Value, e = .returned (.tuple #[v0_, .int .i64 r2]) ∧ Kd.R (Kd.int .u8) 5 w' w.heap.size (fun _ => True) v0_ r1 ∧ Below w.heap.size w w' := by
  have HB := Aside0.mk (Below.refl w.heap.size w)
  have H : (if a1 < 1 then (some (([] : List Int), 22)) else (if a1 > 16 then (some (([] : List Int), 22)) else ((some (([3] : List Int) : List Int)).bind fun y155 => ((pumiceref01_Put.f k a0 8).bind fun t158 => (if y155.length + t158.length < 140737488355328 then ((some (y155 ++ t158 : List Int)).bind fun y161 => (if y161.length < 140737488355328 then (some ((y161 ++ [(a1) % 256]), 0)) else (none))) else (none)))))) = some (r1, r2) := h
  clear h
  by_cases c3 : a1 < 1
  · rw [if_pos c3] at H
    have c3b0 : decide (a1 < 1) = true := decide_eq_true c3
    clear c3
    simp only [Option.some.injEq, Prod.mk.injEq] at H
    obtain ⟨rfl, rfl⟩ := H
    go_enter Try.func21, Try.ntmps21
    go_wp2
    go_ret2
    exact ⟨_, by first | rfl | (simp [errW_none, errW_some] <;> rfl) | (simp [*, errW_none, errW_some] <;> rfl), by first | exact Kd.R_nil _ _ _ _ _ | exact Kd.N_nil _ _ _ _ _ | exact Kd.V_nil _ _ _ _ _ | exact Kd.Q_nil _ _ _ _ _ | exact Kd.S_nil _ _ _ _ _, by repeat (first | (with_reducible first | exact HB.out | apply below_alloc | apply pw_below_drewN | apply below_drew1) | exact HB.out)⟩
  · rw [if_neg c3] at H
    have c3b0 : decide (a1 < 1) = false := decide_eq_false c3
    clear c3
    by_cases c4 : a1 > 16
    · rw [if_pos c4] at H
      have c4b0 : decide (16 < a1) = true := decide_eq_true c4
      clear c4
      simp only [Option.some.injEq, Prod.mk.injEq] at H
      obtain ⟨rfl, rfl⟩ := H
      go_enter Try.func21, Try.ntmps21
      go_wp2
      go_ret2
      exact ⟨_, by first | rfl | (simp [errW_none, errW_some] <;> rfl) | (simp [*, errW_none, errW_some] <;> rfl), by first | exact Kd.R_nil _ _ _ _ _ | exact Kd.N_nil _ _ _ _ _ | exact Kd.V_nil _ _ _ _ _ | exact Kd.Q_nil _ _ _ _ _ | exact Kd.S_nil _ _ _ _ _, by repeat (first | (with_reducible first | exact HB.out | apply below_alloc | apply pw_below_drewN | apply below_drew1) | exact HB.out)⟩
    · rw [if_neg c4] at H
      have c4b0 : decide (16 < a1) = false := decide_eq_false c4
      clear c4
      obtain ⟨y155, hy155⟩ : ∃ y_ : List Int, y_ = (([3] : List Int)) := ⟨_, rfl⟩
      replace H : ((pumiceref01_Put.f k a0 8).bind fun t158 => (if y155.length + t158.length < 140737488355328 then ((some (y155 ++ t158 : List Int)).bind fun y161 => (if y161.length < 140737488355328 then (some ((y161 ++ [(a1) % 256]), 0)) else (none))) else (none))) = some (r1, r2) := by first | (rw [hy155]; with_reducible exact H) | (have H2_ := (Option.bind_some _ _).symm.trans H; rw [hy155]; with_reducible exact H2_) | (have H2_ := (Option.bind_some _ _).symm.trans H; with_reducible exact H2_) | with_reducible exact H | (rw [hy155]; exact H) | exact H
      have Ny155 := Aside0.mk hy155
      clear hy155
      replace H := Option.bind_eq_some_iff.mp H
      obtain ⟨t158, A50, H⟩ := H
      replace H : (if y155.length + t158.length < 140737488355328 then ((some (y155 ++ t158 : List Int)).bind fun y161 => (if y161.length < 140737488355328 then (some ((y161 ++ [(a1) % 256]), 0)) else (none))) else (none)) = some (r1, r2) := H
      have A5 := Aside0.mk A50
      clear A50
      by_cases c6 : y155.length + t158.length < 140737488355328
      · rw [if_pos c6] at H
        have LMc6 := Aside0.mk c6
        clear c6
        obtain ⟨y161, hy161⟩ : ∃ y_ : List Int, y_ = (y155 ++ t158) := ⟨_, rfl⟩
        replace H : (if y161.length < 140737488355328 then (some ((y161 ++ [(a1) % 256]), 0)) else (none)) = some (r1, r2) := by first | (rw [hy161]; with_reducible exact H) | (have H2_ := (Option.bind_some _ _).symm.trans H; rw [hy161]; with_reducible exact H2_) | (have H2_ := (Option.bind_some _ _).symm.trans H; with_reducible exact H2_) | with_reducible exact H | (rw [hy161]; exact H) | exact H
        have Ny161 := Aside0.mk hy161
        clear hy161
        by_cases c7 : y161.length < 140737488355328
        · rw [if_pos c7] at H
          have LMc7 := Aside0.mk c7
          clear c7
          obtain ⟨y164, hy164⟩ : ∃ y_ : List Int, y_ = (y161 ++ [(a1) % 256]) := ⟨_, rfl⟩
          replace H : (some (y164, 0)) = some (r1, r2) := by first | (rw [hy164]; with_reducible exact H) | (have H2_ := (Option.bind_some _ _).symm.trans H; rw [hy164]; with_reducible exact H2_) | (have H2_ := (Option.bind_some _ _).symm.trans H; with_reducible exact H2_) | with_reducible exact H | (rw [hy164]; exact H) | exact H
          have Ny164 := Aside0.mk hy164
          clear hy164
          simp only [Option.some.injEq, Prod.mk.injEq] at H
          obtain ⟨rfl, rfl⟩ := H
          go_enter Try.func21, Try.ntmps21
          go_wp2_with (first | ((with_reducible refine gate_dst (N := 13) rfl ?_); refine Kd.R_lit (Kd.int .u8) _ 5 ?hg (N := 13) ?hd (xs := ([3] : List Int)) (inner := [.int .u8 3]) (ok := fun _ => True) (okp := fun _ => True) ?hr ?hp (fun _ hk => hk) trivial (Below.refl _ _) (Nat.le_refl _) (by simp) ?_; (case hd => rfl); (case hg => rfl); (case hr => first | (go_simp; done) | (go_simp; rfl)); (case hp => exact (Reps.one (show Kd.M (Kd.int .u8) _ _ _ 3 [.int .u8 3] from rfl) (Reps.none _ _))); intro v156 w8 ho9 hb hg_ hnew_; clear hg_ hnew_; (first | rw [← Ny155.out] at ho9 | (simp only [Int.reduceToNat] at ho9; rw [← Ny155.out] at ho9)); have n0_ := Aside0.mk (Kd.R_lower ho9 (below_size (by repeat (first | (with_reducible first | exact HB.out | apply below_alloc | apply pw_below_drewN | apply below_drew1) | exact HB.out)))); have n1_ := Aside0.mk (below_step (by repeat (first | (with_reducible first | exact HB.out | apply below_alloc | apply pw_below_drewN | apply below_drew1) | exact HB.out)) hb); clear HB; have HO157 := n0_; have HB := n1_; clear n0_ n1_; clear hb ho9) | ((with_reducible refine gate_callee (f := 49) rfl ?_); refine goesL_ (some 16) rfl rfl Try.func49 (by kernel_rfl) rfl #[.int .u64 a0, .int .i64 8] rfl (by (try simp only [List.map_toArray, List.map_cons, List.map_nil]); first | done | rfl | (simp only [List.length_drop, List.length_take]; rfl)) ?_; (with_reducible refine (pumiceref01_Put.calls k a0 8 t158 _ A5.out).mono ?_); rintro e w10 ⟨v159, rfl, ho0, hb⟩; refine ⟨_, rfl, ?_⟩; have n0_ := Aside0.mk (Kd.R_elder' (by (with_reducible repeat (first | apply Kd.R_alloc | apply Kd.R_drewN | apply Kd.R_drew)); exact HO157.out) (Kd.R_base ho0) hb); have n1_ := Aside0.mk (Kd.R_lower (Kd.R_new' ho0 (Kd.R_lt (by (with_reducible repeat (first | apply Kd.R_alloc | apply Kd.R_drewN | apply Kd.R_drew)); exact HO157.out))) (below_size (by repeat (first | (with_reducible first | exact HB.out | apply below_alloc | apply pw_below_drewN | apply below_drew1) | exact HB.out)))); have n2_ := Aside0.mk (below_step (by repeat (first | (with_reducible first | exact HB.out | apply below_alloc | apply pw_below_drewN | apply below_drew1) | exact HB.out)) hb); clear HO157; clear HB; have HO157 := n0_; have HO160 := n1_; have HB := n2_; clear n0_ n1_ n2_; (try clear hb); (try clear hb2); (try clear hk); (try clear hi); (try clear ho0); obtain ⟨Ao12, co12, eo12⟩ := Kd.R_slice HO160.out; subst eo12) | ((with_reducible refine gate_builtin (b := .append) (xs := #[.tmp 14, .tmp 16]) rfl ?_); at_builtin; refine Kd.R_append_rows (Kd.int .u8) (w0 := w) w.heap.size rfl (.tmp 14) (.tmp 16) 34 5 (.int .u8 0) 1 rfl Try.underlying34 info5 rfl (by decide) (by omega) v156 y155 t158 _ _ _ (fun k_ => some k_ ≠ (.slice Ao12 t158.length co12 : Value).ownBlock) (fun _ => False) rfl rfl ?aO ?aR (fun _ _ h => h) (fun _ h => h.elim) ?aF ?aB ?aS ?aL ?_; (case aR => repeat (first | exact (Kd.R_reads' HO160.out).2.2 | (with_reducible refine Kd.C_alloc ?_ _) | (with_reducible refine Kd.C_drewN ?_ _) | (with_reducible refine Kd.C_drew ?_))); (case aB => exact (by repeat (first | (with_reducible first | exact HB.out | apply below_alloc | apply pw_below_drewN | apply below_drew1) | exact HB.out))); (case aF => exact (fun k_ hk => Kd.fresh' (Kd.R_lt (by (with_reducible repeat (first | apply Kd.R_alloc | apply Kd.R_drewN | apply Kd.R_drew)); exact HO160.out)) k_ hk)); (case aO => exact (by (with_reducible repeat (first | apply Kd.R_alloc | apply Kd.R_drewN | apply Kd.R_drew)); exact Kd.R_mono HO157.out (fun _ hk => hk.2))); (case aS => exact (below_size (by repeat (first | (with_reducible first | exact HB.out | apply below_alloc | apply pw_below_drewN | apply below_drew1) | exact HB.out)))); (case aL => have := LMc6.out; omega); intro v162 w11 ho hb hg hat; rw [← Ny161.out] at ho; have n0_ := Aside0.mk (Kd.R_after (ok := (fun _ => True)) (by (with_reducible repeat (first | apply Kd.R_alloc | apply Kd.R_drewN | apply Kd.R_drew)); exact HO160.out) hg hat); have n1_ := Aside0.mk (hb); have n2_ := Aside0.mk (ho); clear HO160; clear HB; clear HO157; have HO160 := n0_; have HB := n1_; have HO163 := n2_; clear n0_ n1_ n2_; clear ho hb hg hat) | ((with_reducible refine gate_builtin (b := .append) (xs := #[.tmp 18, .tmp 21]) rfl ?_); at_builtin; refine Kd.R_append (Kd.int .u8) (w0 := w) w.heap.size rfl (.tmp 18) (.tmp 21) 34 5 (.int .u8 0) 1 rfl Try.underlying34 info5 rfl (by decide) (by omega) v162 y161 ((a1) % 256) [.int .u8 ((a1) % 256)] (fun k_ => some k_ ≠ (.slice Ao12 t158.length co12 : Value).ownBlock) (fun _ => False) rfl rfl ?aP (fun _ hk => hk.elim) ?aF ?aO ?aB ?aS ?aL ?_; (case aP => exact rfl); (case aB => exact (by repeat (first | (with_reducible first | exact HB.out | apply below_alloc | apply pw_below_drewN | apply below_drew1) | exact HB.out))); (case aF => exact (fun k_ hk => Kd.fresh' (Kd.R_lt (by (with_reducible repeat (first | apply Kd.R_alloc | apply Kd.R_drewN | apply Kd.R_drew)); exact HO160.out)) k_ hk)); (case aO => exact (by (with_reducible repeat (first | apply Kd.R_alloc | apply Kd.R_drewN | apply Kd.R_drew)); exact HO163.out)); (case aS => exact (below_size (by repeat (first | (with_reducible first | exact HB.out | apply below_alloc | apply pw_below_drewN | apply below_drew1) | exact HB.out)))); (case aL => have := LMc7.out; omega); intro v165 w13 ho hb hg hat; rw [← Ny164.out] at ho; have n0_ := Aside0.mk (Kd.R_after (ok := (fun _ => True)) (by (with_reducible repeat (first | apply Kd.R_alloc | apply Kd.R_drewN | apply Kd.R_drew)); exact HO160.out) hg hat); have n1_ := Aside0.mk (hb); have n2_ := Aside0.mk (ho); clear HO160; clear HB; clear HO163; have HO160 := n0_; have HB := n1_; have HO166 := n2_; clear n0_ n1_ n2_; clear ho hb hg hat))
          go_ret2
          exact ⟨_, by first | rfl | (simp [errW_none, errW_some] <;> rfl) | (simp [*, errW_none, errW_some] <;> rfl), by (with_reducible repeat (first | apply Kd.R_alloc | apply Kd.R_drewN | apply Kd.R_drew)); exact Kd.R_mono HO166.out (fun _ hk => trivial), by repeat (first | (with_reducible first | exact HB.out | apply below_alloc | apply pw_below_drewN | apply below_drew1) | exact HB.out)⟩
        · rw [if_neg c7] at H
          exact absurd H (by simp)
      · rw [if_neg c6] at H
        exact absurd H (by simp)

/-! ### node_Size: function 24 -/
def node_Size.f (a0_0 : ByteArray) (a0_1 : ByteArray) (a0_2 : Bool) : Option (Int) := (node_Pack.f a0_0 a0_1 a0_2).bind fun bt168 => (if bt168.2 = 0 then (some (wrap64 (6 + (bt168.1.length : Int)))) else (some 0))
set_option maxHeartbeats 8000000 in
set_option maxRecDepth 100000 in
theorem node_Size.calls (a0_0 : ByteArray) (a0_1 : ByteArray) (a0_2 : Bool) (r : Int) (w : World) (h : node_Size.f a0_0 a0_1 a0_2 = some r) :
    Calls Try.prog 24 #[.agg #[.string a0_0, .string a0_1, .bool a0_2]] w fun e w' => e = .returned (.int .i64 r) ∧ Below w.heap.size w w' := by
  have hu32 := Try.underlying32
  have HB := Aside0.mk (Below.refl w.heap.size w)
  have H : ((node_Pack.f a0_0 a0_1 a0_2).bind fun bt168 => (if bt168.2 = 0 then (some (wrap64 (6 + (bt168.1.length : Int)))) else (some 0))) = some r := h
  clear h
  replace H := Option.bind_eq_some_iff.mp H
  obtain ⟨⟨t168, t171⟩, A20, H⟩ := H
  replace H : (if t171 = 0 then (some (wrap64 (6 + (t168.length : Int)))) else (some 0)) = some r := H
  have A2 := Aside0.mk A20
  clear A20
  by_cases c3 : t171 = 0
  · rw [if_pos c3] at H
    have c3b0 : (t171 == 0) = true := beq_iff_eq.mpr c3
    have c3b1 : (t171 != 0) = false := bne_eq_false_iff_eq.mpr c3
    clear c3
    obtain rfl := Option.some.inj H
    go_enter Try.func24, Try.ntmps24
    go_wp2_with (first | ((with_reducible refine gate_dst (N := 1) rfl ?_); refine box_event ?hg (N := 1) ?hd (cs := #[.string a0_0, .string a0_1, .bool a0_2]) (t := 32) ?hr ?_; (case hd => rfl); (case hg => rfl); (case hr => first | (go_simp; done) | (go_simp; rfl)); intro gb167 hg w4 hbox hb; have n0_ := Aside0.mk (below_step (by repeat (first | (with_reducible first | exact HB.out | apply below_alloc | apply pw_below_drewN | apply below_drew1) | exact HB.out)) hb); have n1_ := Aside0.mk (hbox); have n2_ := Aside0.mk ((by rw [hg]; exact (below_size (by repeat (first | (with_reducible first | exact HB.out | apply below_alloc | apply pw_below_drewN | apply below_drew1) | exact HB.out))) : w.heap.size ≤ gb167)); have n3_ := Aside0.mk ((by rw [hg]; exact (below_size (by repeat (first | (with_reducible first | exact HB.out | apply below_alloc | apply pw_below_drewN | apply below_drew1) | exact HB.out))) : w.heap.size ≤ gb167)); clear HB; have HB := n0_; have BK167 := n1_; have GW167 := n2_; have GE167 := n3_; clear n0_ n1_ n2_ n3_; clear hb hbox hg; have hcz5_0 : w4.cell? ⟨gb167, 0, none⟩ = some (.string a0_0) := (blk_cell BK167.out 0).trans rfl; have hcz5_1 : w4.cell? ⟨gb167, 1, none⟩ = some (.string a0_1) := (blk_cell BK167.out 1).trans rfl; have hcz5_2 : w4.cell? ⟨gb167, 2, none⟩ = some (.bool a0_2) := (blk_cell BK167.out 2).trans rfl; have hfz5_0 := blk_frozen BK167.out 0; have hfz5_1 := blk_frozen BK167.out 1; have hfz5_2 := blk_frozen BK167.out 2) | ((with_reducible refine gate_callee (f := 18) rfl ?_); refine goesL_ (some 7) rfl rfl Try.func18 (by kernel_rfl) rfl #[.agg #[.string a0_0, .string a0_1, .bool a0_2]] rfl (by (try simp only [List.map_toArray, List.map_cons, List.map_nil]); first | done | rfl | (simp only [List.length_drop, List.length_take]; rfl)) ?_; (with_reducible refine (node_Pack.calls a0_0 a0_1 a0_2 t168 t171 _ A2.out).mono ?_); rintro e w6 ⟨v169, rfl, ho0, hb⟩; refine ⟨_, rfl, ?_⟩; have n0_ := Aside0.mk (Kd.R_lower ho0 (below_size (by repeat (first | (with_reducible first | exact HB.out | apply below_alloc | apply pw_below_drewN | apply below_drew1 | refine below_set ?_ GE167.out) | exact HB.out)))); have n1_ := Aside0.mk (blk_below (g := gb167) (o := .cells #[.string a0_0, .string a0_1, .bool a0_2] 32 (0, 0)) (by (with_reducible repeat (first | refine blk_drewN ?_ _ | refine blk_drew ?_ | refine blk_alloc ?_ _)); exact BK167.out) hb); have n2_ := Aside0.mk (below_step (by repeat (first | (with_reducible first | exact HB.out | apply below_alloc | apply pw_below_drewN | apply below_drew1 | refine below_set ?_ GE167.out) | exact HB.out)) hb); clear BK167; clear HB; have HO170 := n0_; have BK167 := n1_; have HB := n2_; clear n0_ n1_ n2_; (try clear hb); (try clear hb2); (try clear hk); (try clear hi); (try clear ho0); obtain ⟨Ao7, co7, eo7⟩ := Kd.R_slice HO170.out; subst eo7))
    go_ret
    exact ⟨by first | rfl | exact isEmpty_bne_ _ | (simp [errW_none, errW_some] <;> rfl) | (simp [*, errW_none, errW_some] <;> rfl), by repeat (first | (with_reducible first | exact HB.out | apply below_alloc | apply pw_below_drewN | apply below_drew1 | refine below_set ?_ GE167.out) | exact HB.out)⟩
  · rw [if_neg c3] at H
    have c3b0 : (t171 == 0) = false := beq_eq_false_iff_ne.mpr c3
    have c3b1 : (t171 != 0) = true := bne_iff_ne.mpr c3
    obtain rfl := Option.some.inj H
    go_enter Try.func24, Try.ntmps24
    go_wp2_with (first | ((with_reducible refine gate_dst (N := 1) rfl ?_); refine box_event ?hg (N := 1) ?hd (cs := #[.string a0_0, .string a0_1, .bool a0_2]) (t := 32) ?hr ?_; (case hd => rfl); (case hg => rfl); (case hr => first | (go_simp; done) | (go_simp; rfl)); intro gb167 hg w8 hbox hb; have n0_ := Aside0.mk (below_step (by repeat (first | (with_reducible first | exact HB.out | apply below_alloc | apply pw_below_drewN | apply below_drew1) | exact HB.out)) hb); have n1_ := Aside0.mk (hbox); have n2_ := Aside0.mk ((by rw [hg]; exact (below_size (by repeat (first | (with_reducible first | exact HB.out | apply below_alloc | apply pw_below_drewN | apply below_drew1) | exact HB.out))) : w.heap.size ≤ gb167)); have n3_ := Aside0.mk ((by rw [hg]; exact (below_size (by repeat (first | (with_reducible first | exact HB.out | apply below_alloc | apply pw_below_drewN | apply below_drew1) | exact HB.out))) : w.heap.size ≤ gb167)); clear HB; have HB := n0_; have BK167 := n1_; have GW167 := n2_; have GE167 := n3_; clear n0_ n1_ n2_ n3_; clear hb hbox hg; have hcz9_0 : w8.cell? ⟨gb167, 0, none⟩ = some (.string a0_0) := (blk_cell BK167.out 0).trans rfl; have hcz9_1 : w8.cell? ⟨gb167, 1, none⟩ = some (.string a0_1) := (blk_cell BK167.out 1).trans rfl; have hcz9_2 : w8.cell? ⟨gb167, 2, none⟩ = some (.bool a0_2) := (blk_cell BK167.out 2).trans rfl; have hfz9_0 := blk_frozen BK167.out 0; have hfz9_1 := blk_frozen BK167.out 1; have hfz9_2 := blk_frozen BK167.out 2) | ((with_reducible refine gate_callee (f := 18) rfl ?_); refine goesL_ (some 7) rfl rfl Try.func18 (by kernel_rfl) rfl #[.agg #[.string a0_0, .string a0_1, .bool a0_2]] rfl (by (try simp only [List.map_toArray, List.map_cons, List.map_nil]); first | done | rfl | (simp only [List.length_drop, List.length_take]; rfl)) ?_; (with_reducible refine (node_Pack.calls a0_0 a0_1 a0_2 t168 t171 _ A2.out).mono ?_); rintro e w10 ⟨v169, rfl, ho0, hb⟩; refine ⟨_, rfl, ?_⟩; have n0_ := Aside0.mk (Kd.R_lower ho0 (below_size (by repeat (first | (with_reducible first | exact HB.out | apply below_alloc | apply pw_below_drewN | apply below_drew1 | refine below_set ?_ GE167.out) | exact HB.out)))); have n1_ := Aside0.mk (blk_below (g := gb167) (o := .cells #[.string a0_0, .string a0_1, .bool a0_2] 32 (0, 0)) (by (with_reducible repeat (first | refine blk_drewN ?_ _ | refine blk_drew ?_ | refine blk_alloc ?_ _)); exact BK167.out) hb); have n2_ := Aside0.mk (below_step (by repeat (first | (with_reducible first | exact HB.out | apply below_alloc | apply pw_below_drewN | apply below_drew1 | refine below_set ?_ GE167.out) | exact HB.out)) hb); clear BK167; clear HB; have HO170 := n0_; have BK167 := n1_; have HB := n2_; clear n0_ n1_ n2_; (try clear hb); (try clear hb2); (try clear hk); (try clear hi); (try clear ho0)))
    go_ret
    exact ⟨by first | rfl | exact isEmpty_bne_ _ | (simp [errW_none, errW_some] <;> rfl) | (simp [*, errW_none, errW_some] <;> rfl), by repeat (first | (with_reducible first | exact HB.out | apply below_alloc | apply pw_below_drewN | apply below_drew1 | refine below_set ?_ GE167.out) | exact HB.out)⟩

end Go.Proofs.Ytakchpeohmkpkaa.Q

namespace Go.Proofs.Ytakchpeohmkpkaa.Q
open Go.RowKit Go.Proofs.YtakchpeohmkpkaaW.PrintWords
set_option linter.unusedVariables false
set_option linter.unusedSimpArgs false

def u8_ (x : Int) : UInt8 := UInt8.ofNat x.toNat
theorem str_list (xs : List Int) : (strOfNums xs).toList = xs.map u8_ := by
  rw [Lib.toList_data, strOfNums_data]
  rfl
def hi (x : Int) : Int := x / 256 % 256
def lo (x : Int) : Int := x % 256
set_option maxRecDepth 100000 in
theorem alive_true : pumicelaw06_alive.f = some true := by decide +kernel
end Go.Proofs.Ytakchpeohmkpkaa.Q

namespace Go.Proofs.Ytakchpeohmkpkaa.Q
open Go.RowKit Go.Proofs.YtakchpeohmkpkaaW.PrintWords Go.Proofs.YtakchpeohmkpkaaW.PrintLast Go.Proofs.YtakchpeohmkpkaaW.PrintMore
attribute [local go_sem] max2_int min2_int max_two min_two max_three min_three max_four min_four   -- for this text's walks alone
set_option linter.unusedVariables false
set_option linter.unusedSimpArgs false

theorem eqA32 (d : Nat) (w : World) (x0 y0 : ByteArray) (x1 y1 : ByteArray) (x2 y2 : Bool) :
    (Op.equalIn (d + 2) 32 (.agg #[.string x0, .string x1, .bool x2]) (.agg #[.string y0, .string y1, .bool y2])).run Try.prog w = .ok (x0.toList == y0.toList && (x1.toList == y1.toList && (x2 == y2))) w := by
  refine eqA_of Try.underlying32 (by kernel_rfl) ?_
  refine eqf_cons (by rfl) (by go_simp; rfl) (by go_simp; rfl) (by go_simp) ?_
  refine eqf_cons (by rfl) (by go_simp; rfl) (by go_simp; rfl) (by go_simp) ?_
  exact eqf_last (by rfl) (by go_simp; rfl) (by go_simp; rfl) (by go_simp)
end Go.Proofs.Ytakchpeohmkpkaa.Q

namespace Go.Proofs.Ytakchpeohmkpkaa.Q
open Go.RowKit Go.Proofs.YtakchpeohmkpkaaW.PrintWords Go.Proofs.YtakchpeohmkpkaaW.PrintLast Go.Proofs.YtakchpeohmkpkaaW.PrintMore Go.Proofs.Ytakchpeohmkpkaa.Sep
set_option linter.unusedVariables false
set_option linter.unusedSimpArgs false
set_option maxHeartbeats 8000000 in
set_option maxRecDepth 100000 in
theorem runp_SHORT (A0 : Option Addr) (c0 : Nat) (l0 : List Int) (s : ByteArray) (w : World) (hr0 : Kd.C (Kd.int .u8) w A0 l0.length l0) (hs : strOfNums l0 = s) (hl : l0.length ≤ 281474976710656) (hsz : l0.length = s.size) (f0 : decide ((s.size : Int) < 2) = true) :
    Calls Try.prog 27 #[.slice A0 l0.length c0] w fun e w' => e = .returned (.tuple #[.agg #[.string ⟨#[]⟩, .string ⟨#[]⟩, .bool false], .bool false]) ∧ Below w.heap.size w w' := by
  have HS : Aside0 (Src (Value.int .u8) w [] A0 l0) := Aside0.mk (Src.of_C (h1 := fun _ => rfl) hr0)
  have HL : Aside0 (l0.length ≤ 9223372036854775807) := Aside0.mk (by omega)
  have HA := Aside0.mk (Holds.start w)
  have HE := Aside0.mk hs
  obtain ⟨r0, r1⟩ := bt_range s 0
  obtain ⟨r2, r3⟩ := bt_range s 1
  clear hr0 hs hl hsz
  go_enter Try.func27, Try.ntmps27
  go_wp2_with (first
    | ((with_reducible apply load1_); (case HH => first | exact HA.out | exact HA.out.any rfl rfl rfl rfl); (case ht => rfl); (case hx => rfl); (case hw => rfl); (case hm => repeat (first | exact List.Mem.head _ | refine List.Mem.tail _ ?_)); (case hv => exact rfl); simp only [Act.put, List.setIfInBounds_toArray, List.set_cons_zero, List.set_cons_succ])
    | ((with_reducible apply loadN_ (n := 3)); (case HH => first | exact HA.out | exact HA.out.any rfl rfl rfl rfl); (case ht => rfl); (case hn => decide +kernel); (case hx => rfl); (case hw => rfl); (case hm => repeat (first | exact List.Mem.head _ | refine List.Mem.tail _ ?_)); (case hv => first | (simp only [List.drop_succ_cons, List.drop_zero, List.take_succ_cons, List.take_zero]; rfl) | rfl); (case hl => rfl); simp only [Act.put, List.setIfInBounds_toArray, List.set_cons_zero, List.set_cons_succ])
    | ((with_reducible apply alloc_ (z := (.agg #[.string ⟨#[]⟩, .string ⟨#[]⟩, .bool false]))); (case HH => first | exact HA.out | exact HA.out.any rfl rfl rfl rfl); (case hw => rfl); (case hz => kernel_rfl); (case hx => rfl); intro bz w1 HB_; simp only [Act.put, List.setIfInBounds_toArray, List.set_cons_zero, List.set_cons_succ]; clear HA; have HA := Aside0.mk HB_; clear HB_)
    | ((with_reducible apply store_); (case HH => first | exact HA.out | exact HA.out.any rfl rfl rfl rfl); (case hw => rfl); (case hx => rfl); (case hev => conv => lhs; whnf); (case hy => rfl); (case hm => repeat (first | exact Holds.At.here | apply Holds.At.there)); (case hl => rfl); (case hn => kernel_rfl); (case h1 => simp [Value.oneCell']); (case hi => simp); intro w1 HB_; simp only [splice, List.set_cons_zero, List.set_cons_succ] at HB_; clear HA; have HA := Aside0.mk HB_; clear HB_)
    | ((with_reducible apply text_); (case HH => first | exact HA.out | exact HA.out.any rfl rfl rfl rfl); (case hw => rfl); (case hev => conv => lhs; whnf); (case hv => rfl); (case hs => exact Try.underlying34); (case hd => exact Try.underlying9); (case he => exact Try.underlying5); (case hS => exact (HS.out.mono (by simp))); (case hl => exact HL.out); simp only [Act.put, List.setIfInBounds_toArray, List.set_cons_zero, List.set_cons_succ]; rw [HE.out]))
  (apply end_list [.cell 2 32, .tmp 3]; (case hres => rfl); (case hd => rfl); (case hvs => apply vcell (by first | exact HA.out | exact HA.out.any rfl rfl rfl rfl); (case hp => rfl); (case hm => repeat (first | exact List.Mem.head _ | refine List.Mem.tail _ ?_)); (case hag => rfl); (case hi => kernel_rfl); (case hvs => apply Vals.tmp; exact .nil)); (case hl => simp); (case hR => exact ⟨rfl, HA.out.below⟩))
set_option maxHeartbeats 8000000 in
set_option maxRecDepth 100000 in
theorem runp_kind (A0 : Option Addr) (c0 : Nat) (l0 : List Int) (s : ByteArray) (w : World) (hr0 : Kd.C (Kd.int .u8) w A0 l0.length l0) (hs : strOfNums l0 = s) (hl : l0.length ≤ 281474976710656) (hsz : l0.length = s.size) (f0 : decide ((s.size : Int) < 2) = false) (f1 : (bt s 0 != 1) = true) (f2 : (bt s 0 != 2) = true) :
    Calls Try.prog 27 #[.slice A0 l0.length c0] w fun e w' => e = .returned (.tuple #[.agg #[.string ⟨#[]⟩, .string ⟨#[]⟩, .bool false], .bool false]) ∧ Below w.heap.size w w' := by
  have HS : Aside0 (Src (Value.int .u8) w [] A0 l0) := Aside0.mk (Src.of_C (h1 := fun _ => rfl) hr0)
  have HL : Aside0 (l0.length ≤ 9223372036854775807) := Aside0.mk (by omega)
  have HA := Aside0.mk (Holds.start w)
  have HE := Aside0.mk hs
  obtain ⟨r0, r1⟩ := bt_range s 0
  obtain ⟨r2, r3⟩ := bt_range s 1
  have h2 : 2 ≤ s.size := by have := of_decide_eq_false f0; omega
  have b0 : (0 < s.size) = True := eq_true (by omega)
  have b1 : (1 < s.size) = True := eq_true (by omega)
  have b2 : ((0 : Int) < (s.size : Int)) = True := eq_true (by omega)
  have b3 : ((1 : Int) < (s.size : Int)) = True := eq_true (by omega)
  have hx0 : ∀ h : 0 < s.size, ((s[0]'h).toNat : Int) = bt s 0 := bt_at s 0
  have hx1 : ∀ h : 1 < s.size, ((s[1]'h).toNat : Int) = bt s 1 := bt_at s 1
  clear hr0 hs hl hsz
  go_enter Try.func27, Try.ntmps27
  go_wp2_with (first
    | ((with_reducible apply load1_); (case HH => first | exact HA.out | exact HA.out.any rfl rfl rfl rfl); (case ht => rfl); (case hx => rfl); (case hw => rfl); (case hm => repeat (first | exact List.Mem.head _ | refine List.Mem.tail _ ?_)); (case hv => exact rfl); simp only [Act.put, List.setIfInBounds_toArray, List.set_cons_zero, List.set_cons_succ])
    | ((with_reducible apply loadN_ (n := 3)); (case HH => first | exact HA.out | exact HA.out.any rfl rfl rfl rfl); (case ht => rfl); (case hn => decide +kernel); (case hx => rfl); (case hw => rfl); (case hm => repeat (first | exact List.Mem.head _ | refine List.Mem.tail _ ?_)); (case hv => first | (simp only [List.drop_succ_cons, List.drop_zero, List.take_succ_cons, List.take_zero]; rfl) | rfl); (case hl => rfl); simp only [Act.put, List.setIfInBounds_toArray, List.set_cons_zero, List.set_cons_succ])
    | ((with_reducible apply alloc_ (z := (.agg #[.string ⟨#[]⟩, .string ⟨#[]⟩, .bool false]))); (case HH => first | exact HA.out | exact HA.out.any rfl rfl rfl rfl); (case hw => rfl); (case hz => kernel_rfl); (case hx => rfl); intro bz w1 HB_; simp only [Act.put, List.setIfInBounds_toArray, List.set_cons_zero, List.set_cons_succ]; clear HA; have HA := Aside0.mk HB_; clear HB_)
    | ((with_reducible apply store_); (case HH => first | exact HA.out | exact HA.out.any rfl rfl rfl rfl); (case hw => rfl); (case hx => rfl); (case hev => conv => lhs; whnf); (case hy => rfl); (case hm => repeat (first | exact Holds.At.here | apply Holds.At.there)); (case hl => rfl); (case hn => kernel_rfl); (case h1 => simp [Value.oneCell']); (case hi => simp); intro w1 HB_; simp only [splice, List.set_cons_zero, List.set_cons_succ] at HB_; clear HA; have HA := Aside0.mk HB_; clear HB_)
    | ((with_reducible apply text_); (case HH => first | exact HA.out | exact HA.out.any rfl rfl rfl rfl); (case hw => rfl); (case hev => conv => lhs; whnf); (case hv => rfl); (case hs => exact Try.underlying34); (case hd => exact Try.underlying9); (case he => exact Try.underlying5); (case hS => exact (HS.out.mono (by simp))); (case hl => exact HL.out); simp only [Act.put, List.setIfInBounds_toArray, List.set_cons_zero, List.set_cons_succ]; rw [HE.out]))
  (apply end_list [.cell 2 32, .tmp 3]; (case hres => rfl); (case hd => rfl); (case hvs => apply vcell (by first | exact HA.out | exact HA.out.any rfl rfl rfl rfl); (case hp => rfl); (case hm => repeat (first | exact List.Mem.head _ | refine List.Mem.tail _ ?_)); (case hag => rfl); (case hi => kernel_rfl); (case hvs => apply Vals.tmp; exact .nil)); (case hl => simp); (case hR => exact ⟨rfl, HA.out.below⟩))
set_option maxHeartbeats 8000000 in
set_option maxRecDepth 100000 in
theorem runp_size1 (A0 : Option Addr) (c0 : Nat) (l0 : List Int) (s : ByteArray) (w : World) (hr0 : Kd.C (Kd.int .u8) w A0 l0.length l0) (hs : strOfNums l0 = s) (hl : l0.length ≤ 281474976710656) (hsz : l0.length = s.size) (n : Nat) (hn : bt s 1 = (n : Int)) (f0 : decide ((s.size : Int) < 2) = false) (f1 : (bt s 0 != 1) = false) (f2 : s.size < 4 + n) :
    Calls Try.prog 27 #[.slice A0 l0.length c0] w fun e w' => e = .returned (.tuple #[.agg #[.string ⟨#[]⟩, .string ⟨#[]⟩, .bool false], .bool false]) ∧ Below w.heap.size w w' := by
  have HS : Aside0 (Src (Value.int .u8) w [] A0 l0) := Aside0.mk (Src.of_C (h1 := fun _ => rfl) hr0)
  have HL : Aside0 (l0.length ≤ 9223372036854775807) := Aside0.mk (by omega)
  have HA := Aside0.mk (Holds.start w)
  have HE := Aside0.mk hs
  obtain ⟨r0, r1⟩ := bt_range s 0
  obtain ⟨r2, r3⟩ := bt_range s 1
  have h2 : 2 ≤ s.size := by have := of_decide_eq_false f0; omega
  have b0 : (0 < s.size) = True := eq_true (by omega)
  have b1 : (1 < s.size) = True := eq_true (by omega)
  have b2 : ((0 : Int) < (s.size : Int)) = True := eq_true (by omega)
  have b3 : ((1 : Int) < (s.size : Int)) = True := eq_true (by omega)
  have hx0 : ∀ h : 0 < s.size, ((s[0]'h).toNat : Int) = bt s 0 := bt_at s 0
  have hx1 : ∀ h : 1 < s.size, ((s[1]'h).toNat : Int) = bt s 1 := bt_at s 1
  have hn2 : n < 256 := by omega
  have w1_ : wrap64 (n : Int) = (n : Int) := by unfold wrap64; omega
  have f9_ : decide ((s.size : Int) < 2 + (n : Int) + 2) = true := decide_eq_true (by omega)
  have W2 : Aside0 (wrap64 (2 + (n : Int)) = 2 + (n : Int) ∧ wrap64 (2 + (n : Int) + 2) = 2 + (n : Int) + 2 ∧ (2 + (n : Int)).toNat = 2 + n ∧ (2 + (n : Int) + 2).toNat = 4 + n) := Aside0.mk (by unfold wrap64; omega)
  clear w1_ hn2
  clear f2
  clear hr0 hs hl hsz
  go_enter Try.func27, Try.ntmps27
  go_wp2_with (first
    | ((with_reducible apply load1_); (case HH => first | exact HA.out | exact HA.out.any rfl rfl rfl rfl); (case ht => rfl); (case hx => rfl); (case hw => rfl); (case hm => repeat (first | exact List.Mem.head _ | refine List.Mem.tail _ ?_)); (case hv => exact rfl); simp only [Act.put, List.setIfInBounds_toArray, List.set_cons_zero, List.set_cons_succ])
    | ((with_reducible apply loadN_ (n := 3)); (case HH => first | exact HA.out | exact HA.out.any rfl rfl rfl rfl); (case ht => rfl); (case hn => decide +kernel); (case hx => rfl); (case hw => rfl); (case hm => repeat (first | exact List.Mem.head _ | refine List.Mem.tail _ ?_)); (case hv => first | (simp only [List.drop_succ_cons, List.drop_zero, List.take_succ_cons, List.take_zero]; rfl) | rfl); (case hl => rfl); simp only [Act.put, List.setIfInBounds_toArray, List.set_cons_zero, List.set_cons_succ])
    | ((with_reducible apply alloc_ (z := (.agg #[.string ⟨#[]⟩, .string ⟨#[]⟩, .bool false]))); (case HH => first | exact HA.out | exact HA.out.any rfl rfl rfl rfl); (case hw => rfl); (case hz => kernel_rfl); (case hx => rfl); intro bz w1 HB_; simp only [Act.put, List.setIfInBounds_toArray, List.set_cons_zero, List.set_cons_succ]; clear HA; have HA := Aside0.mk HB_; clear HB_)
    | ((with_reducible apply store_); (case HH => first | exact HA.out | exact HA.out.any rfl rfl rfl rfl); (case hw => rfl); (case hx => rfl); (case hev => conv => lhs; whnf); (case hy => rfl); (case hm => repeat (first | exact Holds.At.here | apply Holds.At.there)); (case hl => rfl); (case hn => kernel_rfl); (case h1 => simp [Value.oneCell']); (case hi => simp); intro w1 HB_; simp only [splice, List.set_cons_zero, List.set_cons_succ] at HB_; clear HA; have HA := Aside0.mk HB_; clear HB_)
    | ((with_reducible apply text_); (case HH => first | exact HA.out | exact HA.out.any rfl rfl rfl rfl); (case hw => rfl); (case hev => conv => lhs; whnf); (case hv => rfl); (case hs => exact Try.underlying34); (case hd => exact Try.underlying9); (case he => exact Try.underlying5); (case hS => exact (HS.out.mono (by simp))); (case hl => exact HL.out); simp only [Act.put, List.setIfInBounds_toArray, List.set_cons_zero, List.set_cons_succ]; rw [HE.out]))
  (apply end_list [.cell 2 32, .tmp 3]; (case hres => rfl); (case hd => rfl); (case hvs => apply vcell (by first | exact HA.out | exact HA.out.any rfl rfl rfl rfl); (case hp => rfl); (case hm => repeat (first | exact List.Mem.head _ | refine List.Mem.tail _ ?_)); (case hag => rfl); (case hi => kernel_rfl); (case hvs => apply Vals.tmp; exact .nil)); (case hl => simp); (case hR => exact ⟨rfl, HA.out.below⟩))
set_option maxHeartbeats 8000000 in
set_option maxRecDepth 100000 in
theorem runp_err1 (A0 : Option Addr) (c0 : Nat) (l0 : List Int) (s : ByteArray) (w : World) (hr0 : Kd.C (Kd.int .u8) w A0 l0.length l0) (hs : strOfNums l0 = s) (hl : l0.length ≤ 281474976710656) (hsz : l0.length = s.size) (n : Nat) (hn : bt s 1 = (n : Int)) (g : Bool) (hg : (bt s 0 == 2) = g) (hz : 4 + n ≤ s.size) (xs : List Int) (e : Int) (pk : pumiceref06_Pack.f (s.extract 2 (2 + n)) (s.extract (4 + n) s.size) g = some (xs, e)) (hxl : xs.length ≤ 9223372036854775807) (f0 : decide ((s.size : Int) < 2) = false) (f1 : (bt s 0 != 1) = false) (f2 : (e != 0) = true) :
    Calls Try.prog 27 #[.slice A0 l0.length c0] w fun e w' => e = .returned (.tuple #[.agg #[.string ⟨#[]⟩, .string ⟨#[]⟩, .bool false], .bool false]) ∧ Below w.heap.size w w' := by
  have HS : Aside0 (Src (Value.int .u8) w [] A0 l0) := Aside0.mk (Src.of_C (h1 := fun _ => rfl) hr0)
  have HL : Aside0 (l0.length ≤ 9223372036854775807) := Aside0.mk (by omega)
  have HA := Aside0.mk (Holds.start w)
  have HE := Aside0.mk hs
  obtain ⟨r0, r1⟩ := bt_range s 0
  obtain ⟨r2, r3⟩ := bt_range s 1
  have h2 : 2 ≤ s.size := by have := of_decide_eq_false f0; omega
  have b0 : (0 < s.size) = True := eq_true (by omega)
  have b1 : (1 < s.size) = True := eq_true (by omega)
  have b2 : ((0 : Int) < (s.size : Int)) = True := eq_true (by omega)
  have b3 : ((1 : Int) < (s.size : Int)) = True := eq_true (by omega)
  have hx0 : ∀ h : 0 < s.size, ((s[0]'h).toNat : Int) = bt s 0 := bt_at s 0
  have hx1 : ∀ h : 1 < s.size, ((s[1]'h).toNat : Int) = bt s 1 := bt_at s 1
  have hn2 : n < 256 := by omega
  have w1_ : wrap64 (n : Int) = (n : Int) := by unfold wrap64; omega
  have HP := Aside0.mk pk
  have HX := Aside0.mk hxl
  have HZ := Aside0.mk hz
  have f2_ : decide ((s.size : Int) < 2 + (n : Int) + 2) = false := decide_eq_false (by omega)
  have g0_ : (0 ≤ 2 + (n : Int)) = True := eq_true (by omega)
  have g1_ : (2 ≤ 2 + (n : Int)) = True := eq_true (by omega)
  have g2_ : (2 + (n : Int) ≤ (s.size : Int)) = True := eq_true (by omega)
  have g3_ : (0 ≤ 2 + (n : Int) + 2) = True := eq_true (by omega)
  have g4_ : (2 + (n : Int) + 2 ≤ (s.size : Int)) = True := eq_true (by omega)
  have W2 : Aside0 (wrap64 (2 + (n : Int)) = 2 + (n : Int) ∧ wrap64 (2 + (n : Int) + 2) = 2 + (n : Int) + 2 ∧ (2 + (n : Int)).toNat = 2 + n ∧ (2 + (n : Int) + 2).toNat = 4 + n) := Aside0.mk (by unfold wrap64; omega)
  clear w1_ hn2
  clear hr0 hs hl hsz pk hxl hz
  go_enter Try.func27, Try.ntmps27
  go_wp2_with (first
    | ((with_reducible apply load1_); (case HH => first | exact HA.out | exact HA.out.any rfl rfl rfl rfl); (case ht => rfl); (case hx => rfl); (case hw => rfl); (case hm => repeat (first | exact List.Mem.head _ | refine List.Mem.tail _ ?_)); (case hv => exact rfl); simp only [Act.put, List.setIfInBounds_toArray, List.set_cons_zero, List.set_cons_succ])
    | ((with_reducible apply loadN_ (n := 3)); (case HH => first | exact HA.out | exact HA.out.any rfl rfl rfl rfl); (case ht => rfl); (case hn => decide +kernel); (case hx => rfl); (case hw => rfl); (case hm => repeat (first | exact List.Mem.head _ | refine List.Mem.tail _ ?_)); (case hv => first | (simp only [List.drop_succ_cons, List.drop_zero, List.take_succ_cons, List.take_zero]; rfl) | rfl); (case hl => rfl); simp only [Act.put, List.setIfInBounds_toArray, List.set_cons_zero, List.set_cons_succ])
    | ((with_reducible apply alloc_ (z := (.agg #[.string ⟨#[]⟩, .string ⟨#[]⟩, .bool false]))); (case HH => first | exact HA.out | exact HA.out.any rfl rfl rfl rfl); (case hw => rfl); (case hz => kernel_rfl); (case hx => rfl); intro bz w1 HB_; simp only [Act.put, List.setIfInBounds_toArray, List.set_cons_zero, List.set_cons_succ]; clear HA; have HA := Aside0.mk HB_; clear HB_)
    | ((with_reducible apply store_); (case HH => first | exact HA.out | exact HA.out.any rfl rfl rfl rfl); (case hw => rfl); (case hx => rfl); (case hev => conv => lhs; whnf); (case hy => rfl); (case hm => repeat (first | exact Holds.At.here | apply Holds.At.there)); (case hl => rfl); (case hn => kernel_rfl); (case h1 => simp [Value.oneCell']); (case hi => simp); intro w1 HB_; simp only [splice, List.set_cons_zero, List.set_cons_succ] at HB_; clear HA; have HA := Aside0.mk HB_; clear HB_)
    | ((with_reducible apply text_); (case HH => first | exact HA.out | exact HA.out.any rfl rfl rfl rfl); (case hw => rfl); (case hev => conv => lhs; whnf); (case hv => rfl); (case hs => exact Try.underlying34); (case hd => exact Try.underlying9); (case he => exact Try.underlying5); (case hS => exact (HS.out.mono (by simp))); (case hl => exact HL.out); simp only [Act.put, List.setIfInBounds_toArray, List.set_cons_zero, List.set_cons_succ]; rw [HE.out]))
  refine start_H (by first | exact HA.out | exact HA.out.any rfl rfl rfl rfl) (n := 15) [] #[false, false, false, false, false, false, false, false, false, false, false, false, false, false, false] (by kernel_rfl) rfl rfl ?_
  refine pure_ (i := 0) (N := some 35) (v := ?_) (a' := ?_) #[true, false, false, false, false, false, false, false, false, false, false, false, false, false, false] rfl rfl (by kernel_rfl) (fun _ _ _ h => h) (Or.inl ⟨by rfl, ?_⟩) ?_ ?_
  rotate_left
  · intro w'
    go_simp
    with_reducible rfl
  rotate_left
  · simp only [Act.put, List.setIfInBounds_toArray, List.set_cons_zero, List.set_cons_succ, i64_w, i32_w]
    rfl
  refine pure_ (i := 1) (N := some 36) (v := ?_) (a' := ?_) #[true, true, false, false, false, false, false, false, false, false, false, false, false, false, false] rfl rfl (by kernel_rfl) (fun _ _ _ h => h) (Or.inl ⟨by rfl, ?_⟩) ?_ ?_
  rotate_left
  · intro w'
    go_simp
    with_reducible rfl
  rotate_left
  · simp only [Act.put, List.setIfInBounds_toArray, List.set_cons_zero, List.set_cons_succ, i64_w, i32_w]
    rfl
  refine pure_ (i := 4) (N := some 39) (v := ?_) (a' := ?_) #[true, true, false, false, true, false, false, false, false, false, false, false, false, false, false] rfl rfl (by kernel_rfl) (fun _ _ _ h => h) (Or.inl ⟨by rfl, ?_⟩) ?_ ?_
  rotate_left
  · intro w'
    go_simp
    with_reducible rfl
  rotate_left
  · simp only [Act.put, List.setIfInBounds_toArray, List.set_cons_zero, List.set_cons_succ, i64_w, i32_w]
    rfl
  refine pure_ (i := 5) (N := some 40) (v := ?_) (a' := ?_) #[true, true, false, false, true, true, false, false, false, false, false, false, false, false, false] rfl rfl (by kernel_rfl) (fun _ _ _ h => h) (Or.inl ⟨by rfl, ?_⟩) ?_ ?_
  rotate_left
  · intro w'
    go_simp
    with_reducible rfl
  rotate_left
  · simp only [Act.put, List.setIfInBounds_toArray, List.set_cons_zero, List.set_cons_succ, i64_w, i32_w]
    rfl
  refine pure_ (i := 9) (N := some 44) (v := ?_) (a' := ?_) #[true, true, false, false, true, true, false, false, false, true, false, false, false, false, false] rfl rfl (by kernel_rfl) (fun _ _ _ h => h) (Or.inl ⟨by rfl, ?_⟩) ?_ ?_
  rotate_left
  · intro w'
    go_simp
    with_reducible rfl
  rotate_left
  · simp only [Act.put, List.setIfInBounds_toArray, List.set_cons_zero, List.set_cons_succ, i64_w, i32_w]
    rfl
  refine take_ (i := 2) (N := some 37) (v := (.int .i64 (2 + (n : Int)))) (a' := ?_) #[true, true, true, false, true, true, false, false, false, true, false, false, false, false, false] rfl rfl (by kernel_rfl) (fun _ _ _ h => h) (Or.inl ⟨by rfl, ?_⟩) (by first | exact HA.out | exact HA.out.any rfl rfl rfl rfl | exact (HA.out.any rfl rfl rfl rfl).tail | exact (HA.out.any rfl rfl rfl rfl).tail.tail | exact (HA.out.any rfl rfl rfl rfl).tail.tail.tail) ?_ ?_
  · intro w' s0
    (skip; obtain ⟨q1, q2, _, _⟩ := W2.out; go_simp; try (rw [i64_w, q1]))
  rotate_left
  · simp only [Act.put, List.setIfInBounds_toArray, List.set_cons_zero, List.set_cons_succ, i64_w, i32_w]
    rfl
  refine take_ (i := 3) (N := some 38) (v := (.string (s.extract 2 (2 + n)))) (a' := ?_) #[true, true, true, true, true, true, false, false, false, true, false, false, false, false, false] rfl rfl (by kernel_rfl) (fun _ _ _ h => h) (Or.inl ⟨by rfl, ?_⟩) (by first | exact HA.out | exact HA.out.any rfl rfl rfl rfl | exact (HA.out.any rfl rfl rfl rfl).tail | exact (HA.out.any rfl rfl rfl rfl).tail.tail | exact (HA.out.any rfl rfl rfl rfl).tail.tail.tail) ?_ ?_
  · intro w' s0
    (skip; obtain ⟨_, _, q3, q4⟩ := W2.out; go_simp; try (rw [q3]))
  rotate_left
  · simp only [Act.put, List.setIfInBounds_toArray, List.set_cons_zero, List.set_cons_succ, i64_w, i32_w]
    rfl
  refine take_ (i := 6) (N := some 41) (v := (.int .i64 (2 + (n : Int)))) (a' := ?_) #[true, true, true, true, true, true, true, false, false, true, false, false, false, false, false] rfl rfl (by kernel_rfl) (fun _ _ _ h => h) (Or.inl ⟨by rfl, ?_⟩) (by first | exact HA.out | exact HA.out.any rfl rfl rfl rfl | exact (HA.out.any rfl rfl rfl rfl).tail | exact (HA.out.any rfl rfl rfl rfl).tail.tail | exact (HA.out.any rfl rfl rfl rfl).tail.tail.tail) ?_ ?_
  · intro w' s0
    (skip; obtain ⟨q1, q2, _, _⟩ := W2.out; go_simp; try (rw [i64_w, q1]))
  rotate_left
  · simp only [Act.put, List.setIfInBounds_toArray, List.set_cons_zero, List.set_cons_succ, i64_w, i32_w]
    rfl
  refine take_ (i := 7) (N := some 42) (v := (.int .i64 (2 + (n : Int) + 2))) (a' := ?_) #[true, true, true, true, true, true, true, true, false, true, false, false, false, false, false] rfl rfl (by kernel_rfl) (fun _ _ _ h => h) (Or.inl ⟨by rfl, ?_⟩) (by first | exact HA.out | exact HA.out.any rfl rfl rfl rfl | exact (HA.out.any rfl rfl rfl rfl).tail | exact (HA.out.any rfl rfl rfl rfl).tail.tail | exact (HA.out.any rfl rfl rfl rfl).tail.tail.tail) ?_ ?_
  · intro w' s0
    (skip; obtain ⟨q1, q2, _, _⟩ := W2.out; go_simp; try (rw [i64_w, q2]))
  rotate_left
  · simp only [Act.put, List.setIfInBounds_toArray, List.set_cons_zero, List.set_cons_succ, i64_w, i32_w]
    rfl
  refine take_ (i := 8) (N := some 43) (v := (.string (s.extract (4 + n) s.size))) (a' := ?_) #[true, true, true, true, true, true, true, true, true, true, false, false, false, false, false] rfl rfl (by kernel_rfl) (fun _ _ _ h => h) (Or.inl ⟨by rfl, ?_⟩) (by first | exact HA.out | exact HA.out.any rfl rfl rfl rfl | exact (HA.out.any rfl rfl rfl rfl).tail | exact (HA.out.any rfl rfl rfl rfl).tail.tail | exact (HA.out.any rfl rfl rfl rfl).tail.tail.tail) ?_ ?_
  · intro w' s0
    (skip; obtain ⟨_, _, q3, q4⟩ := W2.out; go_simp; try (rw [q4]))
  rotate_left
  · simp only [Act.put, List.setIfInBounds_toArray, List.set_cons_zero, List.set_cons_succ, i64_w, i32_w]
    rfl
  refine take_ (i := 10) (N := some 45) (v := (.int .u8 (bt s 0))) (a' := ?_) #[true, true, true, true, true, true, true, true, true, true, true, false, false, false, false] rfl rfl (by kernel_rfl) (fun _ _ _ h => h) (Or.inl ⟨by rfl, ?_⟩) (by first | exact HA.out | exact HA.out.any rfl rfl rfl rfl | exact (HA.out.any rfl rfl rfl rfl).tail | exact (HA.out.any rfl rfl rfl rfl).tail.tail | exact (HA.out.any rfl rfl rfl rfl).tail.tail.tail) ?_ ?_
  · intro w' s0
    (skip; go_simp)
  rotate_left
  · simp only [Act.put, List.setIfInBounds_toArray, List.set_cons_zero, List.set_cons_succ, i64_w, i32_w]
    rfl
  refine take_ (i := 11) (N := some 46) (v := (.bool g)) (a' := ?_) #[true, true, true, true, true, true, true, true, true, true, true, true, false, false, false] rfl rfl (by kernel_rfl) (fun _ _ _ h => h) (Or.inl ⟨by rfl, ?_⟩) (by first | exact HA.out | exact HA.out.any rfl rfl rfl rfl | exact (HA.out.any rfl rfl rfl rfl).tail | exact (HA.out.any rfl rfl rfl rfl).tail.tail | exact (HA.out.any rfl rfl rfl rfl).tail.tail.tail) ?_ ?_
  · intro w' s0
    (skip; go_simp)
  rotate_left
  · simp only [Act.put, List.setIfInBounds_toArray, List.set_cons_zero, List.set_cons_succ, i64_w, i32_w]
    rfl
  refine pure_ (i := 12) (N := some 47) (v := ?_) (a' := ?_) #[true, true, true, true, true, true, true, true, true, true, true, true, true, false, false] rfl rfl (by kernel_rfl) (fun _ _ _ h => h) (Or.inl ⟨by rfl, ?_⟩) ?_ ?_
  rotate_left
  · intro w'
    go_simp
    with_reducible rfl
  rotate_left
  · simp only [Act.put, List.setIfInBounds_toArray, List.set_cons_zero, List.set_cons_succ, i64_w, i32_w]
    rfl
  refine one_ (i := 13) (N := some 6) #[true, true, true, true, true, true, true, true, true, true, true, true, true, true, false] rfl rfl (by kernel_rfl) (by decide) (fun K hK => ?_)
  apply alloc_e (z := (.agg #[.string ⟨#[]⟩, .string ⟨#[]⟩, .bool false])); (case HH => first | exact HA.out | exact HA.out.any rfl rfl rfl rfl); (case hop => rfl); (case hN => rfl); (case hw => rfl); (case hz => kernel_rfl); (case hx => rfl); intro bi w1 HB_; clear HA; have HA := Aside0.mk HB_; clear HB_
  refine hK.out _ _ (by first | exact HA.out | exact HA.out.any rfl rfl rfl rfl | exact (HA.out.any rfl rfl rfl rfl).tail | exact (HA.out.any rfl rfl rfl rfl).tail.tail | exact (HA.out.any rfl rfl rfl rfl).tail.tail.tail) (fun hHeld => ?_)
  clear hK K
  refine norm_ (a' := ?_) ?_ ?_
  rotate_left
  · show Act.put _ (some 6) _ = _
    simp only [Act.put, List.setIfInBounds_toArray, List.set_cons_zero, List.set_cons_succ, i64_w, i32_w]
    rfl
  refine one_ (i := 14) (N := none) #[true, true, true, true, true, true, true, true, true, true, true, true, true, true, true] rfl rfl (by kernel_rfl) (by decide) (fun K hK => ?_)
  apply store_e; (case HH => first | exact HA.out | exact HA.out.any rfl rfl rfl rfl); (case hop => rfl); (case hN => rfl); (case hw => rfl); (case hx => rfl); (case hev => conv => lhs; whnf); (case hy => rfl); (case hm => repeat (first | exact Holds.At.here | apply Holds.At.there)); (case hl => rfl); (case hn => kernel_rfl); (case h1 => simp [Value.oneCell']); (case hi => simp); intro w1 HB_; simp only [splice, List.set_cons_zero, List.set_cons_succ] at HB_; clear HA; have HA := Aside0.mk HB_; clear HB_
  refine hK.out _ _ (by first | exact HA.out | exact HA.out.any rfl rfl rfl rfl | exact (HA.out.any rfl rfl rfl rfl).tail | exact (HA.out.any rfl rfl rfl rfl).tail.tail | exact (HA.out.any rfl rfl rfl rfl).tail.tail.tail) (fun hHeld => ?_)
  clear hK K
  refine done_ (by kernel_rfl) ?_
  go_wp2_with (first
    | ((with_reducible apply load1_); (case HH => first | exact HA.out | exact HA.out.any rfl rfl rfl rfl); (case ht => rfl); (case hx => rfl); (case hw => rfl); (case hm => repeat (first | exact List.Mem.head _ | refine List.Mem.tail _ ?_)); (case hv => exact rfl); simp only [Act.put, List.setIfInBounds_toArray, List.set_cons_zero, List.set_cons_succ])
    | ((with_reducible apply loadN_ (n := 3)); (case HH => first | exact HA.out | exact HA.out.any rfl rfl rfl rfl); (case ht => rfl); (case hn => decide +kernel); (case hx => rfl); (case hw => rfl); (case hm => repeat (first | exact List.Mem.head _ | refine List.Mem.tail _ ?_)); (case hv => first | (simp only [List.drop_succ_cons, List.drop_zero, List.take_succ_cons, List.take_zero]; rfl) | rfl); (case hl => rfl); simp only [Act.put, List.setIfInBounds_toArray, List.set_cons_zero, List.set_cons_succ])
    | ((with_reducible apply alloc_ (z := (.agg #[.string ⟨#[]⟩, .string ⟨#[]⟩, .bool false]))); (case HH => first | exact HA.out | exact HA.out.any rfl rfl rfl rfl); (case hw => rfl); (case hz => kernel_rfl); (case hx => rfl); intro bz w1 HB_; simp only [Act.put, List.setIfInBounds_toArray, List.set_cons_zero, List.set_cons_succ]; clear HA; have HA := Aside0.mk HB_; clear HB_)
    | ((with_reducible apply store_); (case HH => first | exact HA.out | exact HA.out.any rfl rfl rfl rfl); (case hw => rfl); (case hx => rfl); (case hev => conv => lhs; whnf); (case hy => rfl); (case hm => repeat (first | exact Holds.At.here | apply Holds.At.there)); (case hl => rfl); (case hn => kernel_rfl); (case h1 => simp [Value.oneCell']); (case hi => simp); intro w1 HB_; simp only [splice, List.set_cons_zero, List.set_cons_succ] at HB_; clear HA; have HA := Aside0.mk HB_; clear HB_)
    | (go_at_call 19; (with_reducible apply Calls.mono); (case h => exact pumiceref06_Pack.calls _ _ _ _ _ _ HP.out); rintro e_ w2 ⟨v2, rfl, hv_, hb_⟩; obtain ⟨A2, c2, rfl, hl2, hf2⟩ := hv_; have X2 : Aside0 (Src (Value.int .u8) w2 [] A2 xs) := Aside0.mk (Src.of_C (h1 := fun _ => rfl) (Kd.F_now hf2)); clear hf2 hl2; have HB_ := HA.out.call1 hb_ rfl rfl rfl rfl; clear hb_ HA; have HA := Aside0.mk HB_; clear HB_; have H2 := Aside0.mk (Holds.start w2))
    | ((with_reducible apply text_); (case HH => first | exact H2.out | exact H2.out.any rfl rfl rfl rfl); (case hw => rfl); (case hev => conv => lhs; whnf); (case hv => rfl); (case hs => exact Try.underlying34); (case hd => exact Try.underlying9); (case he => exact Try.underlying5); (case hS => exact (X2.out.mono (by simp))); (case hl => exact HX.out); simp only [Act.put, List.setIfInBounds_toArray, List.set_cons_zero, List.set_cons_succ]))
  (apply end_list [.cell 2 32, .tmp 3]; (case hres => rfl); (case hd => rfl); (case hvs => apply vcell (by first | exact HA.out | exact HA.out.any rfl rfl rfl rfl); (case hp => rfl); (case hm => repeat (first | exact List.Mem.head _ | refine List.Mem.tail _ ?_)); (case hag => rfl); (case hi => kernel_rfl); (case hvs => apply Vals.tmp; exact .nil)); (case hl => simp); (case hR => exact ⟨rfl, HA.out.below⟩))
set_option maxHeartbeats 8000000 in
set_option maxRecDepth 100000 in
theorem runp_other1 (A0 : Option Addr) (c0 : Nat) (l0 : List Int) (s : ByteArray) (w : World) (hr0 : Kd.C (Kd.int .u8) w A0 l0.length l0) (hs : strOfNums l0 = s) (hl : l0.length ≤ 281474976710656) (hsz : l0.length = s.size) (n : Nat) (hn : bt s 1 = (n : Int)) (g : Bool) (hg : (bt s 0 == 2) = g) (hz : 4 + n ≤ s.size) (xs : List Int) (e : Int) (pk : pumiceref06_Pack.f (s.extract 2 (2 + n)) (s.extract (4 + n) s.size) g = some (xs, e)) (hxl : xs.length ≤ 9223372036854775807) (f0 : decide ((s.size : Int) < 2) = false) (f1 : (bt s 0 != 1) = false) (f2 : (e != 0) = false) (f3 : ((strOfNums xs).toList == s.toList) = false) :
    Calls Try.prog 27 #[.slice A0 l0.length c0] w fun e w' => e = .returned (.tuple #[.agg #[.string ⟨#[]⟩, .string ⟨#[]⟩, .bool false], .bool false]) ∧ Below w.heap.size w w' := by
  have HS : Aside0 (Src (Value.int .u8) w [] A0 l0) := Aside0.mk (Src.of_C (h1 := fun _ => rfl) hr0)
  have HL : Aside0 (l0.length ≤ 9223372036854775807) := Aside0.mk (by omega)
  have HA := Aside0.mk (Holds.start w)
  have HE := Aside0.mk hs
  obtain ⟨r0, r1⟩ := bt_range s 0
  obtain ⟨r2, r3⟩ := bt_range s 1
  have h2 : 2 ≤ s.size := by have := of_decide_eq_false f0; omega
  have b0 : (0 < s.size) = True := eq_true (by omega)
  have b1 : (1 < s.size) = True := eq_true (by omega)
  have b2 : ((0 : Int) < (s.size : Int)) = True := eq_true (by omega)
  have b3 : ((1 : Int) < (s.size : Int)) = True := eq_true (by omega)
  have hx0 : ∀ h : 0 < s.size, ((s[0]'h).toNat : Int) = bt s 0 := bt_at s 0
  have hx1 : ∀ h : 1 < s.size, ((s[1]'h).toNat : Int) = bt s 1 := bt_at s 1
  have hn2 : n < 256 := by omega
  have w1_ : wrap64 (n : Int) = (n : Int) := by unfold wrap64; omega
  have HP := Aside0.mk pk
  have HX := Aside0.mk hxl
  have HZ := Aside0.mk hz
  have f2_ : decide ((s.size : Int) < 2 + (n : Int) + 2) = false := decide_eq_false (by omega)
  have g0_ : (0 ≤ 2 + (n : Int)) = True := eq_true (by omega)
  have g1_ : (2 ≤ 2 + (n : Int)) = True := eq_true (by omega)
  have g2_ : (2 + (n : Int) ≤ (s.size : Int)) = True := eq_true (by omega)
  have g3_ : (0 ≤ 2 + (n : Int) + 2) = True := eq_true (by omega)
  have g4_ : (2 + (n : Int) + 2 ≤ (s.size : Int)) = True := eq_true (by omega)
  have W2 : Aside0 (wrap64 (2 + (n : Int)) = 2 + (n : Int) ∧ wrap64 (2 + (n : Int) + 2) = 2 + (n : Int) + 2 ∧ (2 + (n : Int)).toNat = 2 + n ∧ (2 + (n : Int) + 2).toNat = 4 + n) := Aside0.mk (by unfold wrap64; omega)
  clear w1_ hn2
  clear hr0 hs hl hsz pk hxl hz
  go_enter Try.func27, Try.ntmps27
  go_wp2_with (first
    | ((with_reducible apply load1_); (case HH => first | exact HA.out | exact HA.out.any rfl rfl rfl rfl); (case ht => rfl); (case hx => rfl); (case hw => rfl); (case hm => repeat (first | exact List.Mem.head _ | refine List.Mem.tail _ ?_)); (case hv => exact rfl); simp only [Act.put, List.setIfInBounds_toArray, List.set_cons_zero, List.set_cons_succ])
    | ((with_reducible apply loadN_ (n := 3)); (case HH => first | exact HA.out | exact HA.out.any rfl rfl rfl rfl); (case ht => rfl); (case hn => decide +kernel); (case hx => rfl); (case hw => rfl); (case hm => repeat (first | exact List.Mem.head _ | refine List.Mem.tail _ ?_)); (case hv => first | (simp only [List.drop_succ_cons, List.drop_zero, List.take_succ_cons, List.take_zero]; rfl) | rfl); (case hl => rfl); simp only [Act.put, List.setIfInBounds_toArray, List.set_cons_zero, List.set_cons_succ])
    | ((with_reducible apply alloc_ (z := (.agg #[.string ⟨#[]⟩, .string ⟨#[]⟩, .bool false]))); (case HH => first | exact HA.out | exact HA.out.any rfl rfl rfl rfl); (case hw => rfl); (case hz => kernel_rfl); (case hx => rfl); intro bz w1 HB_; simp only [Act.put, List.setIfInBounds_toArray, List.set_cons_zero, List.set_cons_succ]; clear HA; have HA := Aside0.mk HB_; clear HB_)
    | ((with_reducible apply store_); (case HH => first | exact HA.out | exact HA.out.any rfl rfl rfl rfl); (case hw => rfl); (case hx => rfl); (case hev => conv => lhs; whnf); (case hy => rfl); (case hm => repeat (first | exact Holds.At.here | apply Holds.At.there)); (case hl => rfl); (case hn => kernel_rfl); (case h1 => simp [Value.oneCell']); (case hi => simp); intro w1 HB_; simp only [splice, List.set_cons_zero, List.set_cons_succ] at HB_; clear HA; have HA := Aside0.mk HB_; clear HB_)
    | ((with_reducible apply text_); (case HH => first | exact HA.out | exact HA.out.any rfl rfl rfl rfl); (case hw => rfl); (case hev => conv => lhs; whnf); (case hv => rfl); (case hs => exact Try.underlying34); (case hd => exact Try.underlying9); (case he => exact Try.underlying5); (case hS => exact (HS.out.mono (by simp))); (case hl => exact HL.out); simp only [Act.put, List.setIfInBounds_toArray, List.set_cons_zero, List.set_cons_succ]; rw [HE.out]))
  refine start_H (by first | exact HA.out | exact HA.out.any rfl rfl rfl rfl) (n := 15) [] #[false, false, false, false, false, false, false, false, false, false, false, false, false, false, false] (by kernel_rfl) rfl rfl ?_
  refine pure_ (i := 0) (N := some 35) (v := ?_) (a' := ?_) #[true, false, false, false, false, false, false, false, false, false, false, false, false, false, false] rfl rfl (by kernel_rfl) (fun _ _ _ h => h) (Or.inl ⟨by rfl, ?_⟩) ?_ ?_
  rotate_left
  · intro w'
    go_simp
    with_reducible rfl
  rotate_left
  · simp only [Act.put, List.setIfInBounds_toArray, List.set_cons_zero, List.set_cons_succ, i64_w, i32_w]
    rfl
  refine pure_ (i := 1) (N := some 36) (v := ?_) (a' := ?_) #[true, true, false, false, false, false, false, false, false, false, false, false, false, false, false] rfl rfl (by kernel_rfl) (fun _ _ _ h => h) (Or.inl ⟨by rfl, ?_⟩) ?_ ?_
  rotate_left
  · intro w'
    go_simp
    with_reducible rfl
  rotate_left
  · simp only [Act.put, List.setIfInBounds_toArray, List.set_cons_zero, List.set_cons_succ, i64_w, i32_w]
    rfl
  refine pure_ (i := 4) (N := some 39) (v := ?_) (a' := ?_) #[true, true, false, false, true, false, false, false, false, false, false, false, false, false, false] rfl rfl (by kernel_rfl) (fun _ _ _ h => h) (Or.inl ⟨by rfl, ?_⟩) ?_ ?_
  rotate_left
  · intro w'
    go_simp
    with_reducible rfl
  rotate_left
  · simp only [Act.put, List.setIfInBounds_toArray, List.set_cons_zero, List.set_cons_succ, i64_w, i32_w]
    rfl
  refine pure_ (i := 5) (N := some 40) (v := ?_) (a' := ?_) #[true, true, false, false, true, true, false, false, false, false, false, false, false, false, false] rfl rfl (by kernel_rfl) (fun _ _ _ h => h) (Or.inl ⟨by rfl, ?_⟩) ?_ ?_
  rotate_left
  · intro w'
    go_simp
    with_reducible rfl
  rotate_left
  · simp only [Act.put, List.setIfInBounds_toArray, List.set_cons_zero, List.set_cons_succ, i64_w, i32_w]
    rfl
  refine pure_ (i := 9) (N := some 44) (v := ?_) (a' := ?_) #[true, true, false, false, true, true, false, false, false, true, false, false, false, false, false] rfl rfl (by kernel_rfl) (fun _ _ _ h => h) (Or.inl ⟨by rfl, ?_⟩) ?_ ?_
  rotate_left
  · intro w'
    go_simp
    with_reducible rfl
  rotate_left
  · simp only [Act.put, List.setIfInBounds_toArray, List.set_cons_zero, List.set_cons_succ, i64_w, i32_w]
    rfl
  refine take_ (i := 2) (N := some 37) (v := (.int .i64 (2 + (n : Int)))) (a' := ?_) #[true, true, true, false, true, true, false, false, false, true, false, false, false, false, false] rfl rfl (by kernel_rfl) (fun _ _ _ h => h) (Or.inl ⟨by rfl, ?_⟩) (by first | exact HA.out | exact HA.out.any rfl rfl rfl rfl | exact (HA.out.any rfl rfl rfl rfl).tail | exact (HA.out.any rfl rfl rfl rfl).tail.tail | exact (HA.out.any rfl rfl rfl rfl).tail.tail.tail) ?_ ?_
  · intro w' s0
    (skip; obtain ⟨q1, q2, _, _⟩ := W2.out; go_simp; try (rw [i64_w, q1]))
  rotate_left
  · simp only [Act.put, List.setIfInBounds_toArray, List.set_cons_zero, List.set_cons_succ, i64_w, i32_w]
    rfl
  refine take_ (i := 3) (N := some 38) (v := (.string (s.extract 2 (2 + n)))) (a' := ?_) #[true, true, true, true, true, true, false, false, false, true, false, false, false, false, false] rfl rfl (by kernel_rfl) (fun _ _ _ h => h) (Or.inl ⟨by rfl, ?_⟩) (by first | exact HA.out | exact HA.out.any rfl rfl rfl rfl | exact (HA.out.any rfl rfl rfl rfl).tail | exact (HA.out.any rfl rfl rfl rfl).tail.tail | exact (HA.out.any rfl rfl rfl rfl).tail.tail.tail) ?_ ?_
  · intro w' s0
    (skip; obtain ⟨_, _, q3, q4⟩ := W2.out; go_simp; try (rw [q3]))
  rotate_left
  · simp only [Act.put, List.setIfInBounds_toArray, List.set_cons_zero, List.set_cons_succ, i64_w, i32_w]
    rfl
  refine take_ (i := 6) (N := some 41) (v := (.int .i64 (2 + (n : Int)))) (a' := ?_) #[true, true, true, true, true, true, true, false, false, true, false, false, false, false, false] rfl rfl (by kernel_rfl) (fun _ _ _ h => h) (Or.inl ⟨by rfl, ?_⟩) (by first | exact HA.out | exact HA.out.any rfl rfl rfl rfl | exact (HA.out.any rfl rfl rfl rfl).tail | exact (HA.out.any rfl rfl rfl rfl).tail.tail | exact (HA.out.any rfl rfl rfl rfl).tail.tail.tail) ?_ ?_
  · intro w' s0
    (skip; obtain ⟨q1, q2, _, _⟩ := W2.out; go_simp; try (rw [i64_w, q1]))
  rotate_left
  · simp only [Act.put, List.setIfInBounds_toArray, List.set_cons_zero, List.set_cons_succ, i64_w, i32_w]
    rfl
  refine take_ (i := 7) (N := some 42) (v := (.int .i64 (2 + (n : Int) + 2))) (a' := ?_) #[true, true, true, true, true, true, true, true, false, true, false, false, false, false, false] rfl rfl (by kernel_rfl) (fun _ _ _ h => h) (Or.inl ⟨by rfl, ?_⟩) (by first | exact HA.out | exact HA.out.any rfl rfl rfl rfl | exact (HA.out.any rfl rfl rfl rfl).tail | exact (HA.out.any rfl rfl rfl rfl).tail.tail | exact (HA.out.any rfl rfl rfl rfl).tail.tail.tail) ?_ ?_
  · intro w' s0
    (skip; obtain ⟨q1, q2, _, _⟩ := W2.out; go_simp; try (rw [i64_w, q2]))
  rotate_left
  · simp only [Act.put, List.setIfInBounds_toArray, List.set_cons_zero, List.set_cons_succ, i64_w, i32_w]
    rfl
  refine take_ (i := 8) (N := some 43) (v := (.string (s.extract (4 + n) s.size))) (a' := ?_) #[true, true, true, true, true, true, true, true, true, true, false, false, false, false, false] rfl rfl (by kernel_rfl) (fun _ _ _ h => h) (Or.inl ⟨by rfl, ?_⟩) (by first | exact HA.out | exact HA.out.any rfl rfl rfl rfl | exact (HA.out.any rfl rfl rfl rfl).tail | exact (HA.out.any rfl rfl rfl rfl).tail.tail | exact (HA.out.any rfl rfl rfl rfl).tail.tail.tail) ?_ ?_
  · intro w' s0
    (skip; obtain ⟨_, _, q3, q4⟩ := W2.out; go_simp; try (rw [q4]))
  rotate_left
  · simp only [Act.put, List.setIfInBounds_toArray, List.set_cons_zero, List.set_cons_succ, i64_w, i32_w]
    rfl
  refine take_ (i := 10) (N := some 45) (v := (.int .u8 (bt s 0))) (a' := ?_) #[true, true, true, true, true, true, true, true, true, true, true, false, false, false, false] rfl rfl (by kernel_rfl) (fun _ _ _ h => h) (Or.inl ⟨by rfl, ?_⟩) (by first | exact HA.out | exact HA.out.any rfl rfl rfl rfl | exact (HA.out.any rfl rfl rfl rfl).tail | exact (HA.out.any rfl rfl rfl rfl).tail.tail | exact (HA.out.any rfl rfl rfl rfl).tail.tail.tail) ?_ ?_
  · intro w' s0
    (skip; go_simp)
  rotate_left
  · simp only [Act.put, List.setIfInBounds_toArray, List.set_cons_zero, List.set_cons_succ, i64_w, i32_w]
    rfl
  refine take_ (i := 11) (N := some 46) (v := (.bool g)) (a' := ?_) #[true, true, true, true, true, true, true, true, true, true, true, true, false, false, false] rfl rfl (by kernel_rfl) (fun _ _ _ h => h) (Or.inl ⟨by rfl, ?_⟩) (by first | exact HA.out | exact HA.out.any rfl rfl rfl rfl | exact (HA.out.any rfl rfl rfl rfl).tail | exact (HA.out.any rfl rfl rfl rfl).tail.tail | exact (HA.out.any rfl rfl rfl rfl).tail.tail.tail) ?_ ?_
  · intro w' s0
    (skip; go_simp)
  rotate_left
  · simp only [Act.put, List.setIfInBounds_toArray, List.set_cons_zero, List.set_cons_succ, i64_w, i32_w]
    rfl
  refine pure_ (i := 12) (N := some 47) (v := ?_) (a' := ?_) #[true, true, true, true, true, true, true, true, true, true, true, true, true, false, false] rfl rfl (by kernel_rfl) (fun _ _ _ h => h) (Or.inl ⟨by rfl, ?_⟩) ?_ ?_
  rotate_left
  · intro w'
    go_simp
    with_reducible rfl
  rotate_left
  · simp only [Act.put, List.setIfInBounds_toArray, List.set_cons_zero, List.set_cons_succ, i64_w, i32_w]
    rfl
  refine one_ (i := 13) (N := some 6) #[true, true, true, true, true, true, true, true, true, true, true, true, true, true, false] rfl rfl (by kernel_rfl) (by decide) (fun K hK => ?_)
  apply alloc_e (z := (.agg #[.string ⟨#[]⟩, .string ⟨#[]⟩, .bool false])); (case HH => first | exact HA.out | exact HA.out.any rfl rfl rfl rfl); (case hop => rfl); (case hN => rfl); (case hw => rfl); (case hz => kernel_rfl); (case hx => rfl); intro bi w1 HB_; clear HA; have HA := Aside0.mk HB_; clear HB_
  refine hK.out _ _ (by first | exact HA.out | exact HA.out.any rfl rfl rfl rfl | exact (HA.out.any rfl rfl rfl rfl).tail | exact (HA.out.any rfl rfl rfl rfl).tail.tail | exact (HA.out.any rfl rfl rfl rfl).tail.tail.tail) (fun hHeld => ?_)
  clear hK K
  refine norm_ (a' := ?_) ?_ ?_
  rotate_left
  · show Act.put _ (some 6) _ = _
    simp only [Act.put, List.setIfInBounds_toArray, List.set_cons_zero, List.set_cons_succ, i64_w, i32_w]
    rfl
  refine one_ (i := 14) (N := none) #[true, true, true, true, true, true, true, true, true, true, true, true, true, true, true] rfl rfl (by kernel_rfl) (by decide) (fun K hK => ?_)
  apply store_e; (case HH => first | exact HA.out | exact HA.out.any rfl rfl rfl rfl); (case hop => rfl); (case hN => rfl); (case hw => rfl); (case hx => rfl); (case hev => conv => lhs; whnf); (case hy => rfl); (case hm => repeat (first | exact Holds.At.here | apply Holds.At.there)); (case hl => rfl); (case hn => kernel_rfl); (case h1 => simp [Value.oneCell']); (case hi => simp); intro w1 HB_; simp only [splice, List.set_cons_zero, List.set_cons_succ] at HB_; clear HA; have HA := Aside0.mk HB_; clear HB_
  refine hK.out _ _ (by first | exact HA.out | exact HA.out.any rfl rfl rfl rfl | exact (HA.out.any rfl rfl rfl rfl).tail | exact (HA.out.any rfl rfl rfl rfl).tail.tail | exact (HA.out.any rfl rfl rfl rfl).tail.tail.tail) (fun hHeld => ?_)
  clear hK K
  refine done_ (by kernel_rfl) ?_
  go_wp2_with (first
    | ((with_reducible apply load1_); (case HH => first | exact HA.out | exact HA.out.any rfl rfl rfl rfl); (case ht => rfl); (case hx => rfl); (case hw => rfl); (case hm => repeat (first | exact List.Mem.head _ | refine List.Mem.tail _ ?_)); (case hv => exact rfl); simp only [Act.put, List.setIfInBounds_toArray, List.set_cons_zero, List.set_cons_succ])
    | ((with_reducible apply loadN_ (n := 3)); (case HH => first | exact HA.out | exact HA.out.any rfl rfl rfl rfl); (case ht => rfl); (case hn => decide +kernel); (case hx => rfl); (case hw => rfl); (case hm => repeat (first | exact List.Mem.head _ | refine List.Mem.tail _ ?_)); (case hv => first | (simp only [List.drop_succ_cons, List.drop_zero, List.take_succ_cons, List.take_zero]; rfl) | rfl); (case hl => rfl); simp only [Act.put, List.setIfInBounds_toArray, List.set_cons_zero, List.set_cons_succ])
    | ((with_reducible apply alloc_ (z := (.agg #[.string ⟨#[]⟩, .string ⟨#[]⟩, .bool false]))); (case HH => first | exact HA.out | exact HA.out.any rfl rfl rfl rfl); (case hw => rfl); (case hz => kernel_rfl); (case hx => rfl); intro bz w1 HB_; simp only [Act.put, List.setIfInBounds_toArray, List.set_cons_zero, List.set_cons_succ]; clear HA; have HA := Aside0.mk HB_; clear HB_)
    | ((with_reducible apply store_); (case HH => first | exact HA.out | exact HA.out.any rfl rfl rfl rfl); (case hw => rfl); (case hx => rfl); (case hev => conv => lhs; whnf); (case hy => rfl); (case hm => repeat (first | exact Holds.At.here | apply Holds.At.there)); (case hl => rfl); (case hn => kernel_rfl); (case h1 => simp [Value.oneCell']); (case hi => simp); intro w1 HB_; simp only [splice, List.set_cons_zero, List.set_cons_succ] at HB_; clear HA; have HA := Aside0.mk HB_; clear HB_)
    | (go_at_call 19; (with_reducible apply Calls.mono); (case h => exact pumiceref06_Pack.calls _ _ _ _ _ _ HP.out); rintro e_ w2 ⟨v2, rfl, hv_, hb_⟩; obtain ⟨A2, c2, rfl, hl2, hf2⟩ := hv_; have X2 : Aside0 (Src (Value.int .u8) w2 [] A2 xs) := Aside0.mk (Src.of_C (h1 := fun _ => rfl) (Kd.F_now hf2)); clear hf2 hl2; have HB_ := HA.out.call1 hb_ rfl rfl rfl rfl; clear hb_ HA; have HA := Aside0.mk HB_; clear HB_; have H2 := Aside0.mk (Holds.start w2))
    | ((with_reducible apply text_); (case HH => first | exact H2.out | exact H2.out.any rfl rfl rfl rfl); (case hw => rfl); (case hev => conv => lhs; whnf); (case hv => rfl); (case hs => exact Try.underlying34); (case hd => exact Try.underlying9); (case he => exact Try.underlying5); (case hS => exact (X2.out.mono (by simp))); (case hl => exact HX.out); simp only [Act.put, List.setIfInBounds_toArray, List.set_cons_zero, List.set_cons_succ]))
  (apply end_list [.cell 2 32, .tmp 3]; (case hres => rfl); (case hd => rfl); (case hvs => apply vcell (by first | exact HA.out | exact HA.out.any rfl rfl rfl rfl); (case hp => rfl); (case hm => repeat (first | exact List.Mem.head _ | refine List.Mem.tail _ ?_)); (case hag => rfl); (case hi => kernel_rfl); (case hvs => apply Vals.tmp; exact .nil)); (case hl => simp); (case hR => exact ⟨rfl, HA.out.below⟩))
set_option maxHeartbeats 8000000 in
set_option maxRecDepth 100000 in
theorem runp_ok1 (A0 : Option Addr) (c0 : Nat) (l0 : List Int) (s : ByteArray) (w : World) (hr0 : Kd.C (Kd.int .u8) w A0 l0.length l0) (hs : strOfNums l0 = s) (hl : l0.length ≤ 281474976710656) (hsz : l0.length = s.size) (n : Nat) (hn : bt s 1 = (n : Int)) (g : Bool) (hg : (bt s 0 == 2) = g) (hz : 4 + n ≤ s.size) (xs : List Int) (e : Int) (pk : pumiceref06_Pack.f (s.extract 2 (2 + n)) (s.extract (4 + n) s.size) g = some (xs, e)) (hxl : xs.length ≤ 9223372036854775807) (f0 : decide ((s.size : Int) < 2) = false) (f1 : (bt s 0 != 1) = false) (f2 : (e != 0) = false) (f3 : ((strOfNums xs).toList == s.toList) = true) :
    Calls Try.prog 27 #[.slice A0 l0.length c0] w fun e w' => e = .returned (.tuple #[.agg #[.string (s.extract 2 (2 + n)), .string (s.extract (4 + n) s.size), .bool g], .bool true]) ∧ Below w.heap.size w w' := by
  have HS : Aside0 (Src (Value.int .u8) w [] A0 l0) := Aside0.mk (Src.of_C (h1 := fun _ => rfl) hr0)
  have HL : Aside0 (l0.length ≤ 9223372036854775807) := Aside0.mk (by omega)
  have HA := Aside0.mk (Holds.start w)
  have HE := Aside0.mk hs
  obtain ⟨r0, r1⟩ := bt_range s 0
  obtain ⟨r2, r3⟩ := bt_range s 1
  have h2 : 2 ≤ s.size := by have := of_decide_eq_false f0; omega
  have b0 : (0 < s.size) = True := eq_true (by omega)
  have b1 : (1 < s.size) = True := eq_true (by omega)
  have b2 : ((0 : Int) < (s.size : Int)) = True := eq_true (by omega)
  have b3 : ((1 : Int) < (s.size : Int)) = True := eq_true (by omega)
  have hx0 : ∀ h : 0 < s.size, ((s[0]'h).toNat : Int) = bt s 0 := bt_at s 0
  have hx1 : ∀ h : 1 < s.size, ((s[1]'h).toNat : Int) = bt s 1 := bt_at s 1
  have hn2 : n < 256 := by omega
  have w1_ : wrap64 (n : Int) = (n : Int) := by unfold wrap64; omega
  have HP := Aside0.mk pk
  have HX := Aside0.mk hxl
  have HZ := Aside0.mk hz
  have f2_ : decide ((s.size : Int) < 2 + (n : Int) + 2) = false := decide_eq_false (by omega)
  have g0_ : (0 ≤ 2 + (n : Int)) = True := eq_true (by omega)
  have g1_ : (2 ≤ 2 + (n : Int)) = True := eq_true (by omega)
  have g2_ : (2 + (n : Int) ≤ (s.size : Int)) = True := eq_true (by omega)
  have g3_ : (0 ≤ 2 + (n : Int) + 2) = True := eq_true (by omega)
  have g4_ : (2 + (n : Int) + 2 ≤ (s.size : Int)) = True := eq_true (by omega)
  have W2 : Aside0 (wrap64 (2 + (n : Int)) = 2 + (n : Int) ∧ wrap64 (2 + (n : Int) + 2) = 2 + (n : Int) + 2 ∧ (2 + (n : Int)).toNat = 2 + n ∧ (2 + (n : Int) + 2).toNat = 4 + n) := Aside0.mk (by unfold wrap64; omega)
  clear w1_ hn2
  clear hr0 hs hl hsz pk hxl hz
  go_enter Try.func27, Try.ntmps27
  go_wp2_with (first
    | ((with_reducible apply load1_); (case HH => first | exact HA.out | exact HA.out.any rfl rfl rfl rfl); (case ht => rfl); (case hx => rfl); (case hw => rfl); (case hm => repeat (first | exact List.Mem.head _ | refine List.Mem.tail _ ?_)); (case hv => exact rfl); simp only [Act.put, List.setIfInBounds_toArray, List.set_cons_zero, List.set_cons_succ])
    | ((with_reducible apply loadN_ (n := 3)); (case HH => first | exact HA.out | exact HA.out.any rfl rfl rfl rfl); (case ht => rfl); (case hn => decide +kernel); (case hx => rfl); (case hw => rfl); (case hm => repeat (first | exact List.Mem.head _ | refine List.Mem.tail _ ?_)); (case hv => first | (simp only [List.drop_succ_cons, List.drop_zero, List.take_succ_cons, List.take_zero]; rfl) | rfl); (case hl => rfl); simp only [Act.put, List.setIfInBounds_toArray, List.set_cons_zero, List.set_cons_succ])
    | ((with_reducible apply alloc_ (z := (.agg #[.string ⟨#[]⟩, .string ⟨#[]⟩, .bool false]))); (case HH => first | exact HA.out | exact HA.out.any rfl rfl rfl rfl); (case hw => rfl); (case hz => kernel_rfl); (case hx => rfl); intro bz w1 HB_; simp only [Act.put, List.setIfInBounds_toArray, List.set_cons_zero, List.set_cons_succ]; clear HA; have HA := Aside0.mk HB_; clear HB_)
    | ((with_reducible apply store_); (case HH => first | exact HA.out | exact HA.out.any rfl rfl rfl rfl); (case hw => rfl); (case hx => rfl); (case hev => conv => lhs; whnf); (case hy => rfl); (case hm => repeat (first | exact Holds.At.here | apply Holds.At.there)); (case hl => rfl); (case hn => kernel_rfl); (case h1 => simp [Value.oneCell']); (case hi => simp); intro w1 HB_; simp only [splice, List.set_cons_zero, List.set_cons_succ] at HB_; clear HA; have HA := Aside0.mk HB_; clear HB_)
    | ((with_reducible apply text_); (case HH => first | exact HA.out | exact HA.out.any rfl rfl rfl rfl); (case hw => rfl); (case hev => conv => lhs; whnf); (case hv => rfl); (case hs => exact Try.underlying34); (case hd => exact Try.underlying9); (case he => exact Try.underlying5); (case hS => exact (HS.out.mono (by simp))); (case hl => exact HL.out); simp only [Act.put, List.setIfInBounds_toArray, List.set_cons_zero, List.set_cons_succ]; rw [HE.out]))
  refine start_H (by first | exact HA.out | exact HA.out.any rfl rfl rfl rfl) (n := 15) [] #[false, false, false, false, false, false, false, false, false, false, false, false, false, false, false] (by kernel_rfl) rfl rfl ?_
  refine pure_ (i := 0) (N := some 35) (v := ?_) (a' := ?_) #[true, false, false, false, false, false, false, false, false, false, false, false, false, false, false] rfl rfl (by kernel_rfl) (fun _ _ _ h => h) (Or.inl ⟨by rfl, ?_⟩) ?_ ?_
  rotate_left
  · intro w'
    go_simp
    with_reducible rfl
  rotate_left
  · simp only [Act.put, List.setIfInBounds_toArray, List.set_cons_zero, List.set_cons_succ, i64_w, i32_w]
    rfl
  refine pure_ (i := 1) (N := some 36) (v := ?_) (a' := ?_) #[true, true, false, false, false, false, false, false, false, false, false, false, false, false, false] rfl rfl (by kernel_rfl) (fun _ _ _ h => h) (Or.inl ⟨by rfl, ?_⟩) ?_ ?_
  rotate_left
  · intro w'
    go_simp
    with_reducible rfl
  rotate_left
  · simp only [Act.put, List.setIfInBounds_toArray, List.set_cons_zero, List.set_cons_succ, i64_w, i32_w]
    rfl
  refine pure_ (i := 4) (N := some 39) (v := ?_) (a' := ?_) #[true, true, false, false, true, false, false, false, false, false, false, false, false, false, false] rfl rfl (by kernel_rfl) (fun _ _ _ h => h) (Or.inl ⟨by rfl, ?_⟩) ?_ ?_
  rotate_left
  · intro w'
    go_simp
    with_reducible rfl
  rotate_left
  · simp only [Act.put, List.setIfInBounds_toArray, List.set_cons_zero, List.set_cons_succ, i64_w, i32_w]
    rfl
  refine pure_ (i := 5) (N := some 40) (v := ?_) (a' := ?_) #[true, true, false, false, true, true, false, false, false, false, false, false, false, false, false] rfl rfl (by kernel_rfl) (fun _ _ _ h => h) (Or.inl ⟨by rfl, ?_⟩) ?_ ?_
  rotate_left
  · intro w'
    go_simp
    with_reducible rfl
  rotate_left
  · simp only [Act.put, List.setIfInBounds_toArray, List.set_cons_zero, List.set_cons_succ, i64_w, i32_w]
    rfl
  refine pure_ (i := 9) (N := some 44) (v := ?_) (a' := ?_) #[true, true, false, false, true, true, false, false, false, true, false, false, false, false, false] rfl rfl (by kernel_rfl) (fun _ _ _ h => h) (Or.inl ⟨by rfl, ?_⟩) ?_ ?_
  rotate_left
  · intro w'
    go_simp
    with_reducible rfl
  rotate_left
  · simp only [Act.put, List.setIfInBounds_toArray, List.set_cons_zero, List.set_cons_succ, i64_w, i32_w]
    rfl
  refine take_ (i := 2) (N := some 37) (v := (.int .i64 (2 + (n : Int)))) (a' := ?_) #[true, true, true, false, true, true, false, false, false, true, false, false, false, false, false] rfl rfl (by kernel_rfl) (fun _ _ _ h => h) (Or.inl ⟨by rfl, ?_⟩) (by first | exact HA.out | exact HA.out.any rfl rfl rfl rfl | exact (HA.out.any rfl rfl rfl rfl).tail | exact (HA.out.any rfl rfl rfl rfl).tail.tail | exact (HA.out.any rfl rfl rfl rfl).tail.tail.tail) ?_ ?_
  · intro w' s0
    (skip; obtain ⟨q1, q2, _, _⟩ := W2.out; go_simp; try (rw [i64_w, q1]))
  rotate_left
  · simp only [Act.put, List.setIfInBounds_toArray, List.set_cons_zero, List.set_cons_succ, i64_w, i32_w]
    rfl
  refine take_ (i := 3) (N := some 38) (v := (.string (s.extract 2 (2 + n)))) (a' := ?_) #[true, true, true, true, true, true, false, false, false, true, false, false, false, false, false] rfl rfl (by kernel_rfl) (fun _ _ _ h => h) (Or.inl ⟨by rfl, ?_⟩) (by first | exact HA.out | exact HA.out.any rfl rfl rfl rfl | exact (HA.out.any rfl rfl rfl rfl).tail | exact (HA.out.any rfl rfl rfl rfl).tail.tail | exact (HA.out.any rfl rfl rfl rfl).tail.tail.tail) ?_ ?_
  · intro w' s0
    (skip; obtain ⟨_, _, q3, q4⟩ := W2.out; go_simp; try (rw [q3]))
  rotate_left
  · simp only [Act.put, List.setIfInBounds_toArray, List.set_cons_zero, List.set_cons_succ, i64_w, i32_w]
    rfl
  refine take_ (i := 6) (N := some 41) (v := (.int .i64 (2 + (n : Int)))) (a' := ?_) #[true, true, true, true, true, true, true, false, false, true, false, false, false, false, false] rfl rfl (by kernel_rfl) (fun _ _ _ h => h) (Or.inl ⟨by rfl, ?_⟩) (by first | exact HA.out | exact HA.out.any rfl rfl rfl rfl | exact (HA.out.any rfl rfl rfl rfl).tail | exact (HA.out.any rfl rfl rfl rfl).tail.tail | exact (HA.out.any rfl rfl rfl rfl).tail.tail.tail) ?_ ?_
  · intro w' s0
    (skip; obtain ⟨q1, q2, _, _⟩ := W2.out; go_simp; try (rw [i64_w, q1]))
  rotate_left
  · simp only [Act.put, List.setIfInBounds_toArray, List.set_cons_zero, List.set_cons_succ, i64_w, i32_w]
    rfl
  refine take_ (i := 7) (N := some 42) (v := (.int .i64 (2 + (n : Int) + 2))) (a' := ?_) #[true, true, true, true, true, true, true, true, false, true, false, false, false, false, false] rfl rfl (by kernel_rfl) (fun _ _ _ h => h) (Or.inl ⟨by rfl, ?_⟩) (by first | exact HA.out | exact HA.out.any rfl rfl rfl rfl | exact (HA.out.any rfl rfl rfl rfl).tail | exact (HA.out.any rfl rfl rfl rfl).tail.tail | exact (HA.out.any rfl rfl rfl rfl).tail.tail.tail) ?_ ?_
  · intro w' s0
    (skip; obtain ⟨q1, q2, _, _⟩ := W2.out; go_simp; try (rw [i64_w, q2]))
  rotate_left
  · simp only [Act.put, List.setIfInBounds_toArray, List.set_cons_zero, List.set_cons_succ, i64_w, i32_w]
    rfl
  refine take_ (i := 8) (N := some 43) (v := (.string (s.extract (4 + n) s.size))) (a' := ?_) #[true, true, true, true, true, true, true, true, true, true, false, false, false, false, false] rfl rfl (by kernel_rfl) (fun _ _ _ h => h) (Or.inl ⟨by rfl, ?_⟩) (by first | exact HA.out | exact HA.out.any rfl rfl rfl rfl | exact (HA.out.any rfl rfl rfl rfl).tail | exact (HA.out.any rfl rfl rfl rfl).tail.tail | exact (HA.out.any rfl rfl rfl rfl).tail.tail.tail) ?_ ?_
  · intro w' s0
    (skip; obtain ⟨_, _, q3, q4⟩ := W2.out; go_simp; try (rw [q4]))
  rotate_left
  · simp only [Act.put, List.setIfInBounds_toArray, List.set_cons_zero, List.set_cons_succ, i64_w, i32_w]
    rfl
  refine take_ (i := 10) (N := some 45) (v := (.int .u8 (bt s 0))) (a' := ?_) #[true, true, true, true, true, true, true, true, true, true, true, false, false, false, false] rfl rfl (by kernel_rfl) (fun _ _ _ h => h) (Or.inl ⟨by rfl, ?_⟩) (by first | exact HA.out | exact HA.out.any rfl rfl rfl rfl | exact (HA.out.any rfl rfl rfl rfl).tail | exact (HA.out.any rfl rfl rfl rfl).tail.tail | exact (HA.out.any rfl rfl rfl rfl).tail.tail.tail) ?_ ?_
  · intro w' s0
    (skip; go_simp)
  rotate_left
  · simp only [Act.put, List.setIfInBounds_toArray, List.set_cons_zero, List.set_cons_succ, i64_w, i32_w]
    rfl
  refine take_ (i := 11) (N := some 46) (v := (.bool g)) (a' := ?_) #[true, true, true, true, true, true, true, true, true, true, true, true, false, false, false] rfl rfl (by kernel_rfl) (fun _ _ _ h => h) (Or.inl ⟨by rfl, ?_⟩) (by first | exact HA.out | exact HA.out.any rfl rfl rfl rfl | exact (HA.out.any rfl rfl rfl rfl).tail | exact (HA.out.any rfl rfl rfl rfl).tail.tail | exact (HA.out.any rfl rfl rfl rfl).tail.tail.tail) ?_ ?_
  · intro w' s0
    (skip; go_simp)
  rotate_left
  · simp only [Act.put, List.setIfInBounds_toArray, List.set_cons_zero, List.set_cons_succ, i64_w, i32_w]
    rfl
  refine pure_ (i := 12) (N := some 47) (v := ?_) (a' := ?_) #[true, true, true, true, true, true, true, true, true, true, true, true, true, false, false] rfl rfl (by kernel_rfl) (fun _ _ _ h => h) (Or.inl ⟨by rfl, ?_⟩) ?_ ?_
  rotate_left
  · intro w'
    go_simp
    with_reducible rfl
  rotate_left
  · simp only [Act.put, List.setIfInBounds_toArray, List.set_cons_zero, List.set_cons_succ, i64_w, i32_w]
    rfl
  refine one_ (i := 13) (N := some 6) #[true, true, true, true, true, true, true, true, true, true, true, true, true, true, false] rfl rfl (by kernel_rfl) (by decide) (fun K hK => ?_)
  apply alloc_e (z := (.agg #[.string ⟨#[]⟩, .string ⟨#[]⟩, .bool false])); (case HH => first | exact HA.out | exact HA.out.any rfl rfl rfl rfl); (case hop => rfl); (case hN => rfl); (case hw => rfl); (case hz => kernel_rfl); (case hx => rfl); intro bi w1 HB_; clear HA; have HA := Aside0.mk HB_; clear HB_
  refine hK.out _ _ (by first | exact HA.out | exact HA.out.any rfl rfl rfl rfl | exact (HA.out.any rfl rfl rfl rfl).tail | exact (HA.out.any rfl rfl rfl rfl).tail.tail | exact (HA.out.any rfl rfl rfl rfl).tail.tail.tail) (fun hHeld => ?_)
  clear hK K
  refine norm_ (a' := ?_) ?_ ?_
  rotate_left
  · show Act.put _ (some 6) _ = _
    simp only [Act.put, List.setIfInBounds_toArray, List.set_cons_zero, List.set_cons_succ, i64_w, i32_w]
    rfl
  refine one_ (i := 14) (N := none) #[true, true, true, true, true, true, true, true, true, true, true, true, true, true, true] rfl rfl (by kernel_rfl) (by decide) (fun K hK => ?_)
  apply store_e; (case HH => first | exact HA.out | exact HA.out.any rfl rfl rfl rfl); (case hop => rfl); (case hN => rfl); (case hw => rfl); (case hx => rfl); (case hev => conv => lhs; whnf); (case hy => rfl); (case hm => repeat (first | exact Holds.At.here | apply Holds.At.there)); (case hl => rfl); (case hn => kernel_rfl); (case h1 => simp [Value.oneCell']); (case hi => simp); intro w1 HB_; simp only [splice, List.set_cons_zero, List.set_cons_succ] at HB_; clear HA; have HA := Aside0.mk HB_; clear HB_
  refine hK.out _ _ (by first | exact HA.out | exact HA.out.any rfl rfl rfl rfl | exact (HA.out.any rfl rfl rfl rfl).tail | exact (HA.out.any rfl rfl rfl rfl).tail.tail | exact (HA.out.any rfl rfl rfl rfl).tail.tail.tail) (fun hHeld => ?_)
  clear hK K
  refine done_ (by kernel_rfl) ?_
  go_wp2_with (first
    | ((with_reducible apply load1_); (case HH => first | exact HA.out | exact HA.out.any rfl rfl rfl rfl); (case ht => rfl); (case hx => rfl); (case hw => rfl); (case hm => repeat (first | exact List.Mem.head _ | refine List.Mem.tail _ ?_)); (case hv => exact rfl); simp only [Act.put, List.setIfInBounds_toArray, List.set_cons_zero, List.set_cons_succ])
    | ((with_reducible apply loadN_ (n := 3)); (case HH => first | exact HA.out | exact HA.out.any rfl rfl rfl rfl); (case ht => rfl); (case hn => decide +kernel); (case hx => rfl); (case hw => rfl); (case hm => repeat (first | exact List.Mem.head _ | refine List.Mem.tail _ ?_)); (case hv => first | (simp only [List.drop_succ_cons, List.drop_zero, List.take_succ_cons, List.take_zero]; rfl) | rfl); (case hl => rfl); simp only [Act.put, List.setIfInBounds_toArray, List.set_cons_zero, List.set_cons_succ])
    | ((with_reducible apply alloc_ (z := (.agg #[.string ⟨#[]⟩, .string ⟨#[]⟩, .bool false]))); (case HH => first | exact HA.out | exact HA.out.any rfl rfl rfl rfl); (case hw => rfl); (case hz => kernel_rfl); (case hx => rfl); intro bz w1 HB_; simp only [Act.put, List.setIfInBounds_toArray, List.set_cons_zero, List.set_cons_succ]; clear HA; have HA := Aside0.mk HB_; clear HB_)
    | ((with_reducible apply store_); (case HH => first | exact HA.out | exact HA.out.any rfl rfl rfl rfl); (case hw => rfl); (case hx => rfl); (case hev => conv => lhs; whnf); (case hy => rfl); (case hm => repeat (first | exact Holds.At.here | apply Holds.At.there)); (case hl => rfl); (case hn => kernel_rfl); (case h1 => simp [Value.oneCell']); (case hi => simp); intro w1 HB_; simp only [splice, List.set_cons_zero, List.set_cons_succ] at HB_; clear HA; have HA := Aside0.mk HB_; clear HB_)
    | (go_at_call 19; (with_reducible apply Calls.mono); (case h => exact pumiceref06_Pack.calls _ _ _ _ _ _ HP.out); rintro e_ w2 ⟨v2, rfl, hv_, hb_⟩; obtain ⟨A2, c2, rfl, hl2, hf2⟩ := hv_; have X2 : Aside0 (Src (Value.int .u8) w2 [] A2 xs) := Aside0.mk (Src.of_C (h1 := fun _ => rfl) (Kd.F_now hf2)); clear hf2 hl2; have HB_ := HA.out.call1 hb_ rfl rfl rfl rfl; clear hb_ HA; have HA := Aside0.mk HB_; clear HB_; have H2 := Aside0.mk (Holds.start w2))
    | ((with_reducible apply text_); (case HH => first | exact H2.out | exact H2.out.any rfl rfl rfl rfl); (case hw => rfl); (case hev => conv => lhs; whnf); (case hv => rfl); (case hs => exact Try.underlying34); (case hd => exact Try.underlying9); (case he => exact Try.underlying5); (case hS => exact (X2.out.mono (by simp))); (case hl => exact HX.out); simp only [Act.put, List.setIfInBounds_toArray, List.set_cons_zero, List.set_cons_succ]))
  (apply end_list [.cell 2 32, .tmp 3]; (case hres => rfl); (case hd => rfl); (case hvs => apply vcell (by first | exact HA.out | exact HA.out.any rfl rfl rfl rfl); (case hp => rfl); (case hm => repeat (first | exact List.Mem.head _ | refine List.Mem.tail _ ?_)); (case hag => rfl); (case hi => kernel_rfl); (case hvs => apply Vals.tmp; exact .nil)); (case hl => simp); (case hR => exact ⟨rfl, HA.out.below⟩))
set_option maxHeartbeats 8000000 in
set_option maxRecDepth 100000 in
theorem runp_size2 (A0 : Option Addr) (c0 : Nat) (l0 : List Int) (s : ByteArray) (w : World) (hr0 : Kd.C (Kd.int .u8) w A0 l0.length l0) (hs : strOfNums l0 = s) (hl : l0.length ≤ 281474976710656) (hsz : l0.length = s.size) (n : Nat) (hn : bt s 1 = (n : Int)) (f0 : decide ((s.size : Int) < 2) = false) (f1 : (bt s 0 != 1) = true) (f2 : (bt s 0 != 2) = false) (f3 : s.size < 4 + n) :
    Calls Try.prog 27 #[.slice A0 l0.length c0] w fun e w' => e = .returned (.tuple #[.agg #[.string ⟨#[]⟩, .string ⟨#[]⟩, .bool false], .bool false]) ∧ Below w.heap.size w w' := by
  have HS : Aside0 (Src (Value.int .u8) w [] A0 l0) := Aside0.mk (Src.of_C (h1 := fun _ => rfl) hr0)
  have HL : Aside0 (l0.length ≤ 9223372036854775807) := Aside0.mk (by omega)
  have HA := Aside0.mk (Holds.start w)
  have HE := Aside0.mk hs
  obtain ⟨r0, r1⟩ := bt_range s 0
  obtain ⟨r2, r3⟩ := bt_range s 1
  have h2 : 2 ≤ s.size := by have := of_decide_eq_false f0; omega
  have b0 : (0 < s.size) = True := eq_true (by omega)
  have b1 : (1 < s.size) = True := eq_true (by omega)
  have b2 : ((0 : Int) < (s.size : Int)) = True := eq_true (by omega)
  have b3 : ((1 : Int) < (s.size : Int)) = True := eq_true (by omega)
  have hx0 : ∀ h : 0 < s.size, ((s[0]'h).toNat : Int) = bt s 0 := bt_at s 0
  have hx1 : ∀ h : 1 < s.size, ((s[1]'h).toNat : Int) = bt s 1 := bt_at s 1
  have hn2 : n < 256 := by omega
  have w1_ : wrap64 (n : Int) = (n : Int) := by unfold wrap64; omega
  have f9_ : decide ((s.size : Int) < 2 + (n : Int) + 2) = true := decide_eq_true (by omega)
  have W2 : Aside0 (wrap64 (2 + (n : Int)) = 2 + (n : Int) ∧ wrap64 (2 + (n : Int) + 2) = 2 + (n : Int) + 2 ∧ (2 + (n : Int)).toNat = 2 + n ∧ (2 + (n : Int) + 2).toNat = 4 + n) := Aside0.mk (by unfold wrap64; omega)
  clear w1_ hn2
  clear f3
  clear hr0 hs hl hsz
  go_enter Try.func27, Try.ntmps27
  go_wp2_with (first
    | ((with_reducible apply load1_); (case HH => first | exact HA.out | exact HA.out.any rfl rfl rfl rfl); (case ht => rfl); (case hx => rfl); (case hw => rfl); (case hm => repeat (first | exact List.Mem.head _ | refine List.Mem.tail _ ?_)); (case hv => exact rfl); simp only [Act.put, List.setIfInBounds_toArray, List.set_cons_zero, List.set_cons_succ])
    | ((with_reducible apply loadN_ (n := 3)); (case HH => first | exact HA.out | exact HA.out.any rfl rfl rfl rfl); (case ht => rfl); (case hn => decide +kernel); (case hx => rfl); (case hw => rfl); (case hm => repeat (first | exact List.Mem.head _ | refine List.Mem.tail _ ?_)); (case hv => first | (simp only [List.drop_succ_cons, List.drop_zero, List.take_succ_cons, List.take_zero]; rfl) | rfl); (case hl => rfl); simp only [Act.put, List.setIfInBounds_toArray, List.set_cons_zero, List.set_cons_succ])
    | ((with_reducible apply alloc_ (z := (.agg #[.string ⟨#[]⟩, .string ⟨#[]⟩, .bool false]))); (case HH => first | exact HA.out | exact HA.out.any rfl rfl rfl rfl); (case hw => rfl); (case hz => kernel_rfl); (case hx => rfl); intro bz w1 HB_; simp only [Act.put, List.setIfInBounds_toArray, List.set_cons_zero, List.set_cons_succ]; clear HA; have HA := Aside0.mk HB_; clear HB_)
    | ((with_reducible apply store_); (case HH => first | exact HA.out | exact HA.out.any rfl rfl rfl rfl); (case hw => rfl); (case hx => rfl); (case hev => conv => lhs; whnf); (case hy => rfl); (case hm => repeat (first | exact Holds.At.here | apply Holds.At.there)); (case hl => rfl); (case hn => kernel_rfl); (case h1 => simp [Value.oneCell']); (case hi => simp); intro w1 HB_; simp only [splice, List.set_cons_zero, List.set_cons_succ] at HB_; clear HA; have HA := Aside0.mk HB_; clear HB_)
    | ((with_reducible apply text_); (case HH => first | exact HA.out | exact HA.out.any rfl rfl rfl rfl); (case hw => rfl); (case hev => conv => lhs; whnf); (case hv => rfl); (case hs => exact Try.underlying34); (case hd => exact Try.underlying9); (case he => exact Try.underlying5); (case hS => exact (HS.out.mono (by simp))); (case hl => exact HL.out); simp only [Act.put, List.setIfInBounds_toArray, List.set_cons_zero, List.set_cons_succ]; rw [HE.out]))
  (apply end_list [.cell 2 32, .tmp 3]; (case hres => rfl); (case hd => rfl); (case hvs => apply vcell (by first | exact HA.out | exact HA.out.any rfl rfl rfl rfl); (case hp => rfl); (case hm => repeat (first | exact List.Mem.head _ | refine List.Mem.tail _ ?_)); (case hag => rfl); (case hi => kernel_rfl); (case hvs => apply Vals.tmp; exact .nil)); (case hl => simp); (case hR => exact ⟨rfl, HA.out.below⟩))
set_option maxHeartbeats 8000000 in
set_option maxRecDepth 100000 in
theorem runp_err2 (A0 : Option Addr) (c0 : Nat) (l0 : List Int) (s : ByteArray) (w : World) (hr0 : Kd.C (Kd.int .u8) w A0 l0.length l0) (hs : strOfNums l0 = s) (hl : l0.length ≤ 281474976710656) (hsz : l0.length = s.size) (n : Nat) (hn : bt s 1 = (n : Int)) (g : Bool) (hg : (bt s 0 == 2) = g) (hz : 4 + n ≤ s.size) (xs : List Int) (e : Int) (pk : pumiceref06_Pack.f (s.extract 2 (2 + n)) (s.extract (4 + n) s.size) g = some (xs, e)) (hxl : xs.length ≤ 9223372036854775807) (f0 : decide ((s.size : Int) < 2) = false) (f1 : (bt s 0 != 1) = true) (f2 : (bt s 0 != 2) = false) (f3 : (e != 0) = true) :
    Calls Try.prog 27 #[.slice A0 l0.length c0] w fun e w' => e = .returned (.tuple #[.agg #[.string ⟨#[]⟩, .string ⟨#[]⟩, .bool false], .bool false]) ∧ Below w.heap.size w w' := by
  have HS : Aside0 (Src (Value.int .u8) w [] A0 l0) := Aside0.mk (Src.of_C (h1 := fun _ => rfl) hr0)
  have HL : Aside0 (l0.length ≤ 9223372036854775807) := Aside0.mk (by omega)
  have HA := Aside0.mk (Holds.start w)
  have HE := Aside0.mk hs
  obtain ⟨r0, r1⟩ := bt_range s 0
  obtain ⟨r2, r3⟩ := bt_range s 1
  have h2 : 2 ≤ s.size := by have := of_decide_eq_false f0; omega
  have b0 : (0 < s.size) = True := eq_true (by omega)
  have b1 : (1 < s.size) = True := eq_true (by omega)
  have b2 : ((0 : Int) < (s.size : Int)) = True := eq_true (by omega)
  have b3 : ((1 : Int) < (s.size : Int)) = True := eq_true (by omega)
  have hx0 : ∀ h : 0 < s.size, ((s[0]'h).toNat : Int) = bt s 0 := bt_at s 0
  have hx1 : ∀ h : 1 < s.size, ((s[1]'h).toNat : Int) = bt s 1 := bt_at s 1
  have hn2 : n < 256 := by omega
  have w1_ : wrap64 (n : Int) = (n : Int) := by unfold wrap64; omega
  have HP := Aside0.mk pk
  have HX := Aside0.mk hxl
  have HZ := Aside0.mk hz
  have f2_ : decide ((s.size : Int) < 2 + (n : Int) + 2) = false := decide_eq_false (by omega)
  have g0_ : (0 ≤ 2 + (n : Int)) = True := eq_true (by omega)
  have g1_ : (2 ≤ 2 + (n : Int)) = True := eq_true (by omega)
  have g2_ : (2 + (n : Int) ≤ (s.size : Int)) = True := eq_true (by omega)
  have g3_ : (0 ≤ 2 + (n : Int) + 2) = True := eq_true (by omega)
  have g4_ : (2 + (n : Int) + 2 ≤ (s.size : Int)) = True := eq_true (by omega)
  have W2 : Aside0 (wrap64 (2 + (n : Int)) = 2 + (n : Int) ∧ wrap64 (2 + (n : Int) + 2) = 2 + (n : Int) + 2 ∧ (2 + (n : Int)).toNat = 2 + n ∧ (2 + (n : Int) + 2).toNat = 4 + n) := Aside0.mk (by unfold wrap64; omega)
  clear w1_ hn2
  clear hr0 hs hl hsz pk hxl hz
  go_enter Try.func27, Try.ntmps27
  go_wp2_with (first
    | ((with_reducible apply load1_); (case HH => first | exact HA.out | exact HA.out.any rfl rfl rfl rfl); (case ht => rfl); (case hx => rfl); (case hw => rfl); (case hm => repeat (first | exact List.Mem.head _ | refine List.Mem.tail _ ?_)); (case hv => exact rfl); simp only [Act.put, List.setIfInBounds_toArray, List.set_cons_zero, List.set_cons_succ])
    | ((with_reducible apply loadN_ (n := 3)); (case HH => first | exact HA.out | exact HA.out.any rfl rfl rfl rfl); (case ht => rfl); (case hn => decide +kernel); (case hx => rfl); (case hw => rfl); (case hm => repeat (first | exact List.Mem.head _ | refine List.Mem.tail _ ?_)); (case hv => first | (simp only [List.drop_succ_cons, List.drop_zero, List.take_succ_cons, List.take_zero]; rfl) | rfl); (case hl => rfl); simp only [Act.put, List.setIfInBounds_toArray, List.set_cons_zero, List.set_cons_succ])
    | ((with_reducible apply alloc_ (z := (.agg #[.string ⟨#[]⟩, .string ⟨#[]⟩, .bool false]))); (case HH => first | exact HA.out | exact HA.out.any rfl rfl rfl rfl); (case hw => rfl); (case hz => kernel_rfl); (case hx => rfl); intro bz w1 HB_; simp only [Act.put, List.setIfInBounds_toArray, List.set_cons_zero, List.set_cons_succ]; clear HA; have HA := Aside0.mk HB_; clear HB_)
    | ((with_reducible apply store_); (case HH => first | exact HA.out | exact HA.out.any rfl rfl rfl rfl); (case hw => rfl); (case hx => rfl); (case hev => conv => lhs; whnf); (case hy => rfl); (case hm => repeat (first | exact Holds.At.here | apply Holds.At.there)); (case hl => rfl); (case hn => kernel_rfl); (case h1 => simp [Value.oneCell']); (case hi => simp); intro w1 HB_; simp only [splice, List.set_cons_zero, List.set_cons_succ] at HB_; clear HA; have HA := Aside0.mk HB_; clear HB_)
    | ((with_reducible apply text_); (case HH => first | exact HA.out | exact HA.out.any rfl rfl rfl rfl); (case hw => rfl); (case hev => conv => lhs; whnf); (case hv => rfl); (case hs => exact Try.underlying34); (case hd => exact Try.underlying9); (case he => exact Try.underlying5); (case hS => exact (HS.out.mono (by simp))); (case hl => exact HL.out); simp only [Act.put, List.setIfInBounds_toArray, List.set_cons_zero, List.set_cons_succ]; rw [HE.out]))
  refine start_H (by first | exact HA.out | exact HA.out.any rfl rfl rfl rfl) (n := 15) [] #[false, false, false, false, false, false, false, false, false, false, false, false, false, false, false] (by kernel_rfl) rfl rfl ?_
  refine pure_ (i := 0) (N := some 35) (v := ?_) (a' := ?_) #[true, false, false, false, false, false, false, false, false, false, false, false, false, false, false] rfl rfl (by kernel_rfl) (fun _ _ _ h => h) (Or.inl ⟨by rfl, ?_⟩) ?_ ?_
  rotate_left
  · intro w'
    go_simp
    with_reducible rfl
  rotate_left
  · simp only [Act.put, List.setIfInBounds_toArray, List.set_cons_zero, List.set_cons_succ, i64_w, i32_w]
    rfl
  refine pure_ (i := 1) (N := some 36) (v := ?_) (a' := ?_) #[true, true, false, false, false, false, false, false, false, false, false, false, false, false, false] rfl rfl (by kernel_rfl) (fun _ _ _ h => h) (Or.inl ⟨by rfl, ?_⟩) ?_ ?_
  rotate_left
  · intro w'
    go_simp
    with_reducible rfl
  rotate_left
  · simp only [Act.put, List.setIfInBounds_toArray, List.set_cons_zero, List.set_cons_succ, i64_w, i32_w]
    rfl
  refine pure_ (i := 4) (N := some 39) (v := ?_) (a' := ?_) #[true, true, false, false, true, false, false, false, false, false, false, false, false, false, false] rfl rfl (by kernel_rfl) (fun _ _ _ h => h) (Or.inl ⟨by rfl, ?_⟩) ?_ ?_
  rotate_left
  · intro w'
    go_simp
    with_reducible rfl
  rotate_left
  · simp only [Act.put, List.setIfInBounds_toArray, List.set_cons_zero, List.set_cons_succ, i64_w, i32_w]
    rfl
  refine pure_ (i := 5) (N := some 40) (v := ?_) (a' := ?_) #[true, true, false, false, true, true, false, false, false, false, false, false, false, false, false] rfl rfl (by kernel_rfl) (fun _ _ _ h => h) (Or.inl ⟨by rfl, ?_⟩) ?_ ?_
  rotate_left
  · intro w'
    go_simp
    with_reducible rfl
  rotate_left
  · simp only [Act.put, List.setIfInBounds_toArray, List.set_cons_zero, List.set_cons_succ, i64_w, i32_w]
    rfl
  refine pure_ (i := 9) (N := some 44) (v := ?_) (a' := ?_) #[true, true, false, false, true, true, false, false, false, true, false, false, false, false, false] rfl rfl (by kernel_rfl) (fun _ _ _ h => h) (Or.inl ⟨by rfl, ?_⟩) ?_ ?_
  rotate_left
  · intro w'
    go_simp
    with_reducible rfl
  rotate_left
  · simp only [Act.put, List.setIfInBounds_toArray, List.set_cons_zero, List.set_cons_succ, i64_w, i32_w]
    rfl
  refine take_ (i := 2) (N := some 37) (v := (.int .i64 (2 + (n : Int)))) (a' := ?_) #[true, true, true, false, true, true, false, false, false, true, false, false, false, false, false] rfl rfl (by kernel_rfl) (fun _ _ _ h => h) (Or.inl ⟨by rfl, ?_⟩) (by first | exact HA.out | exact HA.out.any rfl rfl rfl rfl | exact (HA.out.any rfl rfl rfl rfl).tail | exact (HA.out.any rfl rfl rfl rfl).tail.tail | exact (HA.out.any rfl rfl rfl rfl).tail.tail.tail) ?_ ?_
  · intro w' s0
    (skip; obtain ⟨q1, q2, _, _⟩ := W2.out; go_simp; try (rw [i64_w, q1]))
  rotate_left
  · simp only [Act.put, List.setIfInBounds_toArray, List.set_cons_zero, List.set_cons_succ, i64_w, i32_w]
    rfl
  refine take_ (i := 3) (N := some 38) (v := (.string (s.extract 2 (2 + n)))) (a' := ?_) #[true, true, true, true, true, true, false, false, false, true, false, false, false, false, false] rfl rfl (by kernel_rfl) (fun _ _ _ h => h) (Or.inl ⟨by rfl, ?_⟩) (by first | exact HA.out | exact HA.out.any rfl rfl rfl rfl | exact (HA.out.any rfl rfl rfl rfl).tail | exact (HA.out.any rfl rfl rfl rfl).tail.tail | exact (HA.out.any rfl rfl rfl rfl).tail.tail.tail) ?_ ?_
  · intro w' s0
    (skip; obtain ⟨_, _, q3, q4⟩ := W2.out; go_simp; try (rw [q3]))
  rotate_left
  · simp only [Act.put, List.setIfInBounds_toArray, List.set_cons_zero, List.set_cons_succ, i64_w, i32_w]
    rfl
  refine take_ (i := 6) (N := some 41) (v := (.int .i64 (2 + (n : Int)))) (a' := ?_) #[true, true, true, true, true, true, true, false, false, true, false, false, false, false, false] rfl rfl (by kernel_rfl) (fun _ _ _ h => h) (Or.inl ⟨by rfl, ?_⟩) (by first | exact HA.out | exact HA.out.any rfl rfl rfl rfl | exact (HA.out.any rfl rfl rfl rfl).tail | exact (HA.out.any rfl rfl rfl rfl).tail.tail | exact (HA.out.any rfl rfl rfl rfl).tail.tail.tail) ?_ ?_
  · intro w' s0
    (skip; obtain ⟨q1, q2, _, _⟩ := W2.out; go_simp; try (rw [i64_w, q1]))
  rotate_left
  · simp only [Act.put, List.setIfInBounds_toArray, List.set_cons_zero, List.set_cons_succ, i64_w, i32_w]
    rfl
  refine take_ (i := 7) (N := some 42) (v := (.int .i64 (2 + (n : Int) + 2))) (a' := ?_) #[true, true, true, true, true, true, true, true, false, true, false, false, false, false, false] rfl rfl (by kernel_rfl) (fun _ _ _ h => h) (Or.inl ⟨by rfl, ?_⟩) (by first | exact HA.out | exact HA.out.any rfl rfl rfl rfl | exact (HA.out.any rfl rfl rfl rfl).tail | exact (HA.out.any rfl rfl rfl rfl).tail.tail | exact (HA.out.any rfl rfl rfl rfl).tail.tail.tail) ?_ ?_
  · intro w' s0
    (skip; obtain ⟨q1, q2, _, _⟩ := W2.out; go_simp; try (rw [i64_w, q2]))
  rotate_left
  · simp only [Act.put, List.setIfInBounds_toArray, List.set_cons_zero, List.set_cons_succ, i64_w, i32_w]
    rfl
  refine take_ (i := 8) (N := some 43) (v := (.string (s.extract (4 + n) s.size))) (a' := ?_) #[true, true, true, true, true, true, true, true, true, true, false, false, false, false, false] rfl rfl (by kernel_rfl) (fun _ _ _ h => h) (Or.inl ⟨by rfl, ?_⟩) (by first | exact HA.out | exact HA.out.any rfl rfl rfl rfl | exact (HA.out.any rfl rfl rfl rfl).tail | exact (HA.out.any rfl rfl rfl rfl).tail.tail | exact (HA.out.any rfl rfl rfl rfl).tail.tail.tail) ?_ ?_
  · intro w' s0
    (skip; obtain ⟨_, _, q3, q4⟩ := W2.out; go_simp; try (rw [q4]))
  rotate_left
  · simp only [Act.put, List.setIfInBounds_toArray, List.set_cons_zero, List.set_cons_succ, i64_w, i32_w]
    rfl
  refine take_ (i := 10) (N := some 45) (v := (.int .u8 (bt s 0))) (a' := ?_) #[true, true, true, true, true, true, true, true, true, true, true, false, false, false, false] rfl rfl (by kernel_rfl) (fun _ _ _ h => h) (Or.inl ⟨by rfl, ?_⟩) (by first | exact HA.out | exact HA.out.any rfl rfl rfl rfl | exact (HA.out.any rfl rfl rfl rfl).tail | exact (HA.out.any rfl rfl rfl rfl).tail.tail | exact (HA.out.any rfl rfl rfl rfl).tail.tail.tail) ?_ ?_
  · intro w' s0
    (skip; go_simp)
  rotate_left
  · simp only [Act.put, List.setIfInBounds_toArray, List.set_cons_zero, List.set_cons_succ, i64_w, i32_w]
    rfl
  refine take_ (i := 11) (N := some 46) (v := (.bool g)) (a' := ?_) #[true, true, true, true, true, true, true, true, true, true, true, true, false, false, false] rfl rfl (by kernel_rfl) (fun _ _ _ h => h) (Or.inl ⟨by rfl, ?_⟩) (by first | exact HA.out | exact HA.out.any rfl rfl rfl rfl | exact (HA.out.any rfl rfl rfl rfl).tail | exact (HA.out.any rfl rfl rfl rfl).tail.tail | exact (HA.out.any rfl rfl rfl rfl).tail.tail.tail) ?_ ?_
  · intro w' s0
    (skip; go_simp)
  rotate_left
  · simp only [Act.put, List.setIfInBounds_toArray, List.set_cons_zero, List.set_cons_succ, i64_w, i32_w]
    rfl
  refine pure_ (i := 12) (N := some 47) (v := ?_) (a' := ?_) #[true, true, true, true, true, true, true, true, true, true, true, true, true, false, false] rfl rfl (by kernel_rfl) (fun _ _ _ h => h) (Or.inl ⟨by rfl, ?_⟩) ?_ ?_
  rotate_left
  · intro w'
    go_simp
    with_reducible rfl
  rotate_left
  · simp only [Act.put, List.setIfInBounds_toArray, List.set_cons_zero, List.set_cons_succ, i64_w, i32_w]
    rfl
  refine one_ (i := 13) (N := some 6) #[true, true, true, true, true, true, true, true, true, true, true, true, true, true, false] rfl rfl (by kernel_rfl) (by decide) (fun K hK => ?_)
  apply alloc_e (z := (.agg #[.string ⟨#[]⟩, .string ⟨#[]⟩, .bool false])); (case HH => first | exact HA.out | exact HA.out.any rfl rfl rfl rfl); (case hop => rfl); (case hN => rfl); (case hw => rfl); (case hz => kernel_rfl); (case hx => rfl); intro bi w1 HB_; clear HA; have HA := Aside0.mk HB_; clear HB_
  refine hK.out _ _ (by first | exact HA.out | exact HA.out.any rfl rfl rfl rfl | exact (HA.out.any rfl rfl rfl rfl).tail | exact (HA.out.any rfl rfl rfl rfl).tail.tail | exact (HA.out.any rfl rfl rfl rfl).tail.tail.tail) (fun hHeld => ?_)
  clear hK K
  refine norm_ (a' := ?_) ?_ ?_
  rotate_left
  · show Act.put _ (some 6) _ = _
    simp only [Act.put, List.setIfInBounds_toArray, List.set_cons_zero, List.set_cons_succ, i64_w, i32_w]
    rfl
  refine one_ (i := 14) (N := none) #[true, true, true, true, true, true, true, true, true, true, true, true, true, true, true] rfl rfl (by kernel_rfl) (by decide) (fun K hK => ?_)
  apply store_e; (case HH => first | exact HA.out | exact HA.out.any rfl rfl rfl rfl); (case hop => rfl); (case hN => rfl); (case hw => rfl); (case hx => rfl); (case hev => conv => lhs; whnf); (case hy => rfl); (case hm => repeat (first | exact Holds.At.here | apply Holds.At.there)); (case hl => rfl); (case hn => kernel_rfl); (case h1 => simp [Value.oneCell']); (case hi => simp); intro w1 HB_; simp only [splice, List.set_cons_zero, List.set_cons_succ] at HB_; clear HA; have HA := Aside0.mk HB_; clear HB_
  refine hK.out _ _ (by first | exact HA.out | exact HA.out.any rfl rfl rfl rfl | exact (HA.out.any rfl rfl rfl rfl).tail | exact (HA.out.any rfl rfl rfl rfl).tail.tail | exact (HA.out.any rfl rfl rfl rfl).tail.tail.tail) (fun hHeld => ?_)
  clear hK K
  refine done_ (by kernel_rfl) ?_
  go_wp2_with (first
    | ((with_reducible apply load1_); (case HH => first | exact HA.out | exact HA.out.any rfl rfl rfl rfl); (case ht => rfl); (case hx => rfl); (case hw => rfl); (case hm => repeat (first | exact List.Mem.head _ | refine List.Mem.tail _ ?_)); (case hv => exact rfl); simp only [Act.put, List.setIfInBounds_toArray, List.set_cons_zero, List.set_cons_succ])
    | ((with_reducible apply loadN_ (n := 3)); (case HH => first | exact HA.out | exact HA.out.any rfl rfl rfl rfl); (case ht => rfl); (case hn => decide +kernel); (case hx => rfl); (case hw => rfl); (case hm => repeat (first | exact List.Mem.head _ | refine List.Mem.tail _ ?_)); (case hv => first | (simp only [List.drop_succ_cons, List.drop_zero, List.take_succ_cons, List.take_zero]; rfl) | rfl); (case hl => rfl); simp only [Act.put, List.setIfInBounds_toArray, List.set_cons_zero, List.set_cons_succ])
    | ((with_reducible apply alloc_ (z := (.agg #[.string ⟨#[]⟩, .string ⟨#[]⟩, .bool false]))); (case HH => first | exact HA.out | exact HA.out.any rfl rfl rfl rfl); (case hw => rfl); (case hz => kernel_rfl); (case hx => rfl); intro bz w1 HB_; simp only [Act.put, List.setIfInBounds_toArray, List.set_cons_zero, List.set_cons_succ]; clear HA; have HA := Aside0.mk HB_; clear HB_)
    | ((with_reducible apply store_); (case HH => first | exact HA.out | exact HA.out.any rfl rfl rfl rfl); (case hw => rfl); (case hx => rfl); (case hev => conv => lhs; whnf); (case hy => rfl); (case hm => repeat (first | exact Holds.At.here | apply Holds.At.there)); (case hl => rfl); (case hn => kernel_rfl); (case h1 => simp [Value.oneCell']); (case hi => simp); intro w1 HB_; simp only [splice, List.set_cons_zero, List.set_cons_succ] at HB_; clear HA; have HA := Aside0.mk HB_; clear HB_)
    | (go_at_call 19; (with_reducible apply Calls.mono); (case h => exact pumiceref06_Pack.calls _ _ _ _ _ _ HP.out); rintro e_ w2 ⟨v2, rfl, hv_, hb_⟩; obtain ⟨A2, c2, rfl, hl2, hf2⟩ := hv_; have X2 : Aside0 (Src (Value.int .u8) w2 [] A2 xs) := Aside0.mk (Src.of_C (h1 := fun _ => rfl) (Kd.F_now hf2)); clear hf2 hl2; have HB_ := HA.out.call1 hb_ rfl rfl rfl rfl; clear hb_ HA; have HA := Aside0.mk HB_; clear HB_; have H2 := Aside0.mk (Holds.start w2))
    | ((with_reducible apply text_); (case HH => first | exact H2.out | exact H2.out.any rfl rfl rfl rfl); (case hw => rfl); (case hev => conv => lhs; whnf); (case hv => rfl); (case hs => exact Try.underlying34); (case hd => exact Try.underlying9); (case he => exact Try.underlying5); (case hS => exact (X2.out.mono (by simp))); (case hl => exact HX.out); simp only [Act.put, List.setIfInBounds_toArray, List.set_cons_zero, List.set_cons_succ]))
  (apply end_list [.cell 2 32, .tmp 3]; (case hres => rfl); (case hd => rfl); (case hvs => apply vcell (by first | exact HA.out | exact HA.out.any rfl rfl rfl rfl); (case hp => rfl); (case hm => repeat (first | exact List.Mem.head _ | refine List.Mem.tail _ ?_)); (case hag => rfl); (case hi => kernel_rfl); (case hvs => apply Vals.tmp; exact .nil)); (case hl => simp); (case hR => exact ⟨rfl, HA.out.below⟩))
set_option maxHeartbeats 8000000 in
set_option maxRecDepth 100000 in
theorem runp_other2 (A0 : Option Addr) (c0 : Nat) (l0 : List Int) (s : ByteArray) (w : World) (hr0 : Kd.C (Kd.int .u8) w A0 l0.length l0) (hs : strOfNums l0 = s) (hl : l0.length ≤ 281474976710656) (hsz : l0.length = s.size) (n : Nat) (hn : bt s 1 = (n : Int)) (g : Bool) (hg : (bt s 0 == 2) = g) (hz : 4 + n ≤ s.size) (xs : List Int) (e : Int) (pk : pumiceref06_Pack.f (s.extract 2 (2 + n)) (s.extract (4 + n) s.size) g = some (xs, e)) (hxl : xs.length ≤ 9223372036854775807) (f0 : decide ((s.size : Int) < 2) = false) (f1 : (bt s 0 != 1) = true) (f2 : (bt s 0 != 2) = false) (f3 : (e != 0) = false) (f4 : ((strOfNums xs).toList == s.toList) = false) :
    Calls Try.prog 27 #[.slice A0 l0.length c0] w fun e w' => e = .returned (.tuple #[.agg #[.string ⟨#[]⟩, .string ⟨#[]⟩, .bool false], .bool false]) ∧ Below w.heap.size w w' := by
  have HS : Aside0 (Src (Value.int .u8) w [] A0 l0) := Aside0.mk (Src.of_C (h1 := fun _ => rfl) hr0)
  have HL : Aside0 (l0.length ≤ 9223372036854775807) := Aside0.mk (by omega)
  have HA := Aside0.mk (Holds.start w)
  have HE := Aside0.mk hs
  obtain ⟨r0, r1⟩ := bt_range s 0
  obtain ⟨r2, r3⟩ := bt_range s 1
  have h2 : 2 ≤ s.size := by have := of_decide_eq_false f0; omega
  have b0 : (0 < s.size) = True := eq_true (by omega)
  have b1 : (1 < s.size) = True := eq_true (by omega)
  have b2 : ((0 : Int) < (s.size : Int)) = True := eq_true (by omega)
  have b3 : ((1 : Int) < (s.size : Int)) = True := eq_true (by omega)
  have hx0 : ∀ h : 0 < s.size, ((s[0]'h).toNat : Int) = bt s 0 := bt_at s 0
  have hx1 : ∀ h : 1 < s.size, ((s[1]'h).toNat : Int) = bt s 1 := bt_at s 1
  have hn2 : n < 256 := by omega
  have w1_ : wrap64 (n : Int) = (n : Int) := by unfold wrap64; omega
  have HP := Aside0.mk pk
  have HX := Aside0.mk hxl
  have HZ := Aside0.mk hz
  have f2_ : decide ((s.size : Int) < 2 + (n : Int) + 2) = false := decide_eq_false (by omega)
  have g0_ : (0 ≤ 2 + (n : Int)) = True := eq_true (by omega)
  have g1_ : (2 ≤ 2 + (n : Int)) = True := eq_true (by omega)
  have g2_ : (2 + (n : Int) ≤ (s.size : Int)) = True := eq_true (by omega)
  have g3_ : (0 ≤ 2 + (n : Int) + 2) = True := eq_true (by omega)
  have g4_ : (2 + (n : Int) + 2 ≤ (s.size : Int)) = True := eq_true (by omega)
  have W2 : Aside0 (wrap64 (2 + (n : Int)) = 2 + (n : Int) ∧ wrap64 (2 + (n : Int) + 2) = 2 + (n : Int) + 2 ∧ (2 + (n : Int)).toNat = 2 + n ∧ (2 + (n : Int) + 2).toNat = 4 + n) := Aside0.mk (by unfold wrap64; omega)
  clear w1_ hn2
  clear hr0 hs hl hsz pk hxl hz
  go_enter Try.func27, Try.ntmps27
  go_wp2_with (first
    | ((with_reducible apply load1_); (case HH => first | exact HA.out | exact HA.out.any rfl rfl rfl rfl); (case ht => rfl); (case hx => rfl); (case hw => rfl); (case hm => repeat (first | exact List.Mem.head _ | refine List.Mem.tail _ ?_)); (case hv => exact rfl); simp only [Act.put, List.setIfInBounds_toArray, List.set_cons_zero, List.set_cons_succ])
    | ((with_reducible apply loadN_ (n := 3)); (case HH => first | exact HA.out | exact HA.out.any rfl rfl rfl rfl); (case ht => rfl); (case hn => decide +kernel); (case hx => rfl); (case hw => rfl); (case hm => repeat (first | exact List.Mem.head _ | refine List.Mem.tail _ ?_)); (case hv => first | (simp only [List.drop_succ_cons, List.drop_zero, List.take_succ_cons, List.take_zero]; rfl) | rfl); (case hl => rfl); simp only [Act.put, List.setIfInBounds_toArray, List.set_cons_zero, List.set_cons_succ])
    | ((with_reducible apply alloc_ (z := (.agg #[.string ⟨#[]⟩, .string ⟨#[]⟩, .bool false]))); (case HH => first | exact HA.out | exact HA.out.any rfl rfl rfl rfl); (case hw => rfl); (case hz => kernel_rfl); (case hx => rfl); intro bz w1 HB_; simp only [Act.put, List.setIfInBounds_toArray, List.set_cons_zero, List.set_cons_succ]; clear HA; have HA := Aside0.mk HB_; clear HB_)
    | ((with_reducible apply store_); (case HH => first | exact HA.out | exact HA.out.any rfl rfl rfl rfl); (case hw => rfl); (case hx => rfl); (case hev => conv => lhs; whnf); (case hy => rfl); (case hm => repeat (first | exact Holds.At.here | apply Holds.At.there)); (case hl => rfl); (case hn => kernel_rfl); (case h1 => simp [Value.oneCell']); (case hi => simp); intro w1 HB_; simp only [splice, List.set_cons_zero, List.set_cons_succ] at HB_; clear HA; have HA := Aside0.mk HB_; clear HB_)
    | ((with_reducible apply text_); (case HH => first | exact HA.out | exact HA.out.any rfl rfl rfl rfl); (case hw => rfl); (case hev => conv => lhs; whnf); (case hv => rfl); (case hs => exact Try.underlying34); (case hd => exact Try.underlying9); (case he => exact Try.underlying5); (case hS => exact (HS.out.mono (by simp))); (case hl => exact HL.out); simp only [Act.put, List.setIfInBounds_toArray, List.set_cons_zero, List.set_cons_succ]; rw [HE.out]))
  refine start_H (by first | exact HA.out | exact HA.out.any rfl rfl rfl rfl) (n := 15) [] #[false, false, false, false, false, false, false, false, false, false, false, false, false, false, false] (by kernel_rfl) rfl rfl ?_
  refine pure_ (i := 0) (N := some 35) (v := ?_) (a' := ?_) #[true, false, false, false, false, false, false, false, false, false, false, false, false, false, false] rfl rfl (by kernel_rfl) (fun _ _ _ h => h) (Or.inl ⟨by rfl, ?_⟩) ?_ ?_
  rotate_left
  · intro w'
    go_simp
    with_reducible rfl
  rotate_left
  · simp only [Act.put, List.setIfInBounds_toArray, List.set_cons_zero, List.set_cons_succ, i64_w, i32_w]
    rfl
  refine pure_ (i := 1) (N := some 36) (v := ?_) (a' := ?_) #[true, true, false, false, false, false, false, false, false, false, false, false, false, false, false] rfl rfl (by kernel_rfl) (fun _ _ _ h => h) (Or.inl ⟨by rfl, ?_⟩) ?_ ?_
  rotate_left
  · intro w'
    go_simp
    with_reducible rfl
  rotate_left
  · simp only [Act.put, List.setIfInBounds_toArray, List.set_cons_zero, List.set_cons_succ, i64_w, i32_w]
    rfl
  refine pure_ (i := 4) (N := some 39) (v := ?_) (a' := ?_) #[true, true, false, false, true, false, false, false, false, false, false, false, false, false, false] rfl rfl (by kernel_rfl) (fun _ _ _ h => h) (Or.inl ⟨by rfl, ?_⟩) ?_ ?_
  rotate_left
  · intro w'
    go_simp
    with_reducible rfl
  rotate_left
  · simp only [Act.put, List.setIfInBounds_toArray, List.set_cons_zero, List.set_cons_succ, i64_w, i32_w]
    rfl
  refine pure_ (i := 5) (N := some 40) (v := ?_) (a' := ?_) #[true, true, false, false, true, true, false, false, false, false, false, false, false, false, false] rfl rfl (by kernel_rfl) (fun _ _ _ h => h) (Or.inl ⟨by rfl, ?_⟩) ?_ ?_
  rotate_left
  · intro w'
    go_simp
    with_reducible rfl
  rotate_left
  · simp only [Act.put, List.setIfInBounds_toArray, List.set_cons_zero, List.set_cons_succ, i64_w, i32_w]
    rfl
  refine pure_ (i := 9) (N := some 44) (v := ?_) (a' := ?_) #[true, true, false, false, true, true, false, false, false, true, false, false, false, false, false] rfl rfl (by kernel_rfl) (fun _ _ _ h => h) (Or.inl ⟨by rfl, ?_⟩) ?_ ?_
  rotate_left
  · intro w'
    go_simp
    with_reducible rfl
  rotate_left
  · simp only [Act.put, List.setIfInBounds_toArray, List.set_cons_zero, List.set_cons_succ, i64_w, i32_w]
    rfl
  refine take_ (i := 2) (N := some 37) (v := (.int .i64 (2 + (n : Int)))) (a' := ?_) #[true, true, true, false, true, true, false, false, false, true, false, false, false, false, false] rfl rfl (by kernel_rfl) (fun _ _ _ h => h) (Or.inl ⟨by rfl, ?_⟩) (by first | exact HA.out | exact HA.out.any rfl rfl rfl rfl | exact (HA.out.any rfl rfl rfl rfl).tail | exact (HA.out.any rfl rfl rfl rfl).tail.tail | exact (HA.out.any rfl rfl rfl rfl).tail.tail.tail) ?_ ?_
  · intro w' s0
    (skip; obtain ⟨q1, q2, _, _⟩ := W2.out; go_simp; try (rw [i64_w, q1]))
  rotate_left
  · simp only [Act.put, List.setIfInBounds_toArray, List.set_cons_zero, List.set_cons_succ, i64_w, i32_w]
    rfl
  refine take_ (i := 3) (N := some 38) (v := (.string (s.extract 2 (2 + n)))) (a' := ?_) #[true, true, true, true, true, true, false, false, false, true, false, false, false, false, false] rfl rfl (by kernel_rfl) (fun _ _ _ h => h) (Or.inl ⟨by rfl, ?_⟩) (by first | exact HA.out | exact HA.out.any rfl rfl rfl rfl | exact (HA.out.any rfl rfl rfl rfl).tail | exact (HA.out.any rfl rfl rfl rfl).tail.tail | exact (HA.out.any rfl rfl rfl rfl).tail.tail.tail) ?_ ?_
  · intro w' s0
    (skip; obtain ⟨_, _, q3, q4⟩ := W2.out; go_simp; try (rw [q3]))
  rotate_left
  · simp only [Act.put, List.setIfInBounds_toArray, List.set_cons_zero, List.set_cons_succ, i64_w, i32_w]
    rfl
  refine take_ (i := 6) (N := some 41) (v := (.int .i64 (2 + (n : Int)))) (a' := ?_) #[true, true, true, true, true, true, true, false, false, true, false, false, false, false, false] rfl rfl (by kernel_rfl) (fun _ _ _ h => h) (Or.inl ⟨by rfl, ?_⟩) (by first | exact HA.out | exact HA.out.any rfl rfl rfl rfl | exact (HA.out.any rfl rfl rfl rfl).tail | exact (HA.out.any rfl rfl rfl rfl).tail.tail | exact (HA.out.any rfl rfl rfl rfl).tail.tail.tail) ?_ ?_
  · intro w' s0
    (skip; obtain ⟨q1, q2, _, _⟩ := W2.out; go_simp; try (rw [i64_w, q1]))
  rotate_left
  · simp only [Act.put, List.setIfInBounds_toArray, List.set_cons_zero, List.set_cons_succ, i64_w, i32_w]
    rfl
  refine take_ (i := 7) (N := some 42) (v := (.int .i64 (2 + (n : Int) + 2))) (a' := ?_) #[true, true, true, true, true, true, true, true, false, true, false, false, false, false, false] rfl rfl (by kernel_rfl) (fun _ _ _ h => h) (Or.inl ⟨by rfl, ?_⟩) (by first | exact HA.out | exact HA.out.any rfl rfl rfl rfl | exact (HA.out.any rfl rfl rfl rfl).tail | exact (HA.out.any rfl rfl rfl rfl).tail.tail | exact (HA.out.any rfl rfl rfl rfl).tail.tail.tail) ?_ ?_
  · intro w' s0
    (skip; obtain ⟨q1, q2, _, _⟩ := W2.out; go_simp; try (rw [i64_w, q2]))
  rotate_left
  · simp only [Act.put, List.setIfInBounds_toArray, List.set_cons_zero, List.set_cons_succ, i64_w, i32_w]
    rfl
  refine take_ (i := 8) (N := some 43) (v := (.string (s.extract (4 + n) s.size))) (a' := ?_) #[true, true, true, true, true, true, true, true, true, true, false, false, false, false, false] rfl rfl (by kernel_rfl) (fun _ _ _ h => h) (Or.inl ⟨by rfl, ?_⟩) (by first | exact HA.out | exact HA.out.any rfl rfl rfl rfl | exact (HA.out.any rfl rfl rfl rfl).tail | exact (HA.out.any rfl rfl rfl rfl).tail.tail | exact (HA.out.any rfl rfl rfl rfl).tail.tail.tail) ?_ ?_
  · intro w' s0
    (skip; obtain ⟨_, _, q3, q4⟩ := W2.out; go_simp; try (rw [q4]))
  rotate_left
  · simp only [Act.put, List.setIfInBounds_toArray, List.set_cons_zero, List.set_cons_succ, i64_w, i32_w]
    rfl
  refine take_ (i := 10) (N := some 45) (v := (.int .u8 (bt s 0))) (a' := ?_) #[true, true, true, true, true, true, true, true, true, true, true, false, false, false, false] rfl rfl (by kernel_rfl) (fun _ _ _ h => h) (Or.inl ⟨by rfl, ?_⟩) (by first | exact HA.out | exact HA.out.any rfl rfl rfl rfl | exact (HA.out.any rfl rfl rfl rfl).tail | exact (HA.out.any rfl rfl rfl rfl).tail.tail | exact (HA.out.any rfl rfl rfl rfl).tail.tail.tail) ?_ ?_
  · intro w' s0
    (skip; go_simp)
  rotate_left
  · simp only [Act.put, List.setIfInBounds_toArray, List.set_cons_zero, List.set_cons_succ, i64_w, i32_w]
    rfl
  refine take_ (i := 11) (N := some 46) (v := (.bool g)) (a' := ?_) #[true, true, true, true, true, true, true, true, true, true, true, true, false, false, false] rfl rfl (by kernel_rfl) (fun _ _ _ h => h) (Or.inl ⟨by rfl, ?_⟩) (by first | exact HA.out | exact HA.out.any rfl rfl rfl rfl | exact (HA.out.any rfl rfl rfl rfl).tail | exact (HA.out.any rfl rfl rfl rfl).tail.tail | exact (HA.out.any rfl rfl rfl rfl).tail.tail.tail) ?_ ?_
  · intro w' s0
    (skip; go_simp)
  rotate_left
  · simp only [Act.put, List.setIfInBounds_toArray, List.set_cons_zero, List.set_cons_succ, i64_w, i32_w]
    rfl
  refine pure_ (i := 12) (N := some 47) (v := ?_) (a' := ?_) #[true, true, true, true, true, true, true, true, true, true, true, true, true, false, false] rfl rfl (by kernel_rfl) (fun _ _ _ h => h) (Or.inl ⟨by rfl, ?_⟩) ?_ ?_
  rotate_left
  · intro w'
    go_simp
    with_reducible rfl
  rotate_left
  · simp only [Act.put, List.setIfInBounds_toArray, List.set_cons_zero, List.set_cons_succ, i64_w, i32_w]
    rfl
  refine one_ (i := 13) (N := some 6) #[true, true, true, true, true, true, true, true, true, true, true, true, true, true, false] rfl rfl (by kernel_rfl) (by decide) (fun K hK => ?_)
  apply alloc_e (z := (.agg #[.string ⟨#[]⟩, .string ⟨#[]⟩, .bool false])); (case HH => first | exact HA.out | exact HA.out.any rfl rfl rfl rfl); (case hop => rfl); (case hN => rfl); (case hw => rfl); (case hz => kernel_rfl); (case hx => rfl); intro bi w1 HB_; clear HA; have HA := Aside0.mk HB_; clear HB_
  refine hK.out _ _ (by first | exact HA.out | exact HA.out.any rfl rfl rfl rfl | exact (HA.out.any rfl rfl rfl rfl).tail | exact (HA.out.any rfl rfl rfl rfl).tail.tail | exact (HA.out.any rfl rfl rfl rfl).tail.tail.tail) (fun hHeld => ?_)
  clear hK K
  refine norm_ (a' := ?_) ?_ ?_
  rotate_left
  · show Act.put _ (some 6) _ = _
    simp only [Act.put, List.setIfInBounds_toArray, List.set_cons_zero, List.set_cons_succ, i64_w, i32_w]
    rfl
  refine one_ (i := 14) (N := none) #[true, true, true, true, true, true, true, true, true, true, true, true, true, true, true] rfl rfl (by kernel_rfl) (by decide) (fun K hK => ?_)
  apply store_e; (case HH => first | exact HA.out | exact HA.out.any rfl rfl rfl rfl); (case hop => rfl); (case hN => rfl); (case hw => rfl); (case hx => rfl); (case hev => conv => lhs; whnf); (case hy => rfl); (case hm => repeat (first | exact Holds.At.here | apply Holds.At.there)); (case hl => rfl); (case hn => kernel_rfl); (case h1 => simp [Value.oneCell']); (case hi => simp); intro w1 HB_; simp only [splice, List.set_cons_zero, List.set_cons_succ] at HB_; clear HA; have HA := Aside0.mk HB_; clear HB_
  refine hK.out _ _ (by first | exact HA.out | exact HA.out.any rfl rfl rfl rfl | exact (HA.out.any rfl rfl rfl rfl).tail | exact (HA.out.any rfl rfl rfl rfl).tail.tail | exact (HA.out.any rfl rfl rfl rfl).tail.tail.tail) (fun hHeld => ?_)
  clear hK K
  refine done_ (by kernel_rfl) ?_
  go_wp2_with (first
    | ((with_reducible apply load1_); (case HH => first | exact HA.out | exact HA.out.any rfl rfl rfl rfl); (case ht => rfl); (case hx => rfl); (case hw => rfl); (case hm => repeat (first | exact List.Mem.head _ | refine List.Mem.tail _ ?_)); (case hv => exact rfl); simp only [Act.put, List.setIfInBounds_toArray, List.set_cons_zero, List.set_cons_succ])
    | ((with_reducible apply loadN_ (n := 3)); (case HH => first | exact HA.out | exact HA.out.any rfl rfl rfl rfl); (case ht => rfl); (case hn => decide +kernel); (case hx => rfl); (case hw => rfl); (case hm => repeat (first | exact List.Mem.head _ | refine List.Mem.tail _ ?_)); (case hv => first | (simp only [List.drop_succ_cons, List.drop_zero, List.take_succ_cons, List.take_zero]; rfl) | rfl); (case hl => rfl); simp only [Act.put, List.setIfInBounds_toArray, List.set_cons_zero, List.set_cons_succ])
    | ((with_reducible apply alloc_ (z := (.agg #[.string ⟨#[]⟩, .string ⟨#[]⟩, .bool false]))); (case HH => first | exact HA.out | exact HA.out.any rfl rfl rfl rfl); (case hw => rfl); (case hz => kernel_rfl); (case hx => rfl); intro bz w1 HB_; simp only [Act.put, List.setIfInBounds_toArray, List.set_cons_zero, List.set_cons_succ]; clear HA; have HA := Aside0.mk HB_; clear HB_)
    | ((with_reducible apply store_); (case HH => first | exact HA.out | exact HA.out.any rfl rfl rfl rfl); (case hw => rfl); (case hx => rfl); (case hev => conv => lhs; whnf); (case hy => rfl); (case hm => repeat (first | exact Holds.At.here | apply Holds.At.there)); (case hl => rfl); (case hn => kernel_rfl); (case h1 => simp [Value.oneCell']); (case hi => simp); intro w1 HB_; simp only [splice, List.set_cons_zero, List.set_cons_succ] at HB_; clear HA; have HA := Aside0.mk HB_; clear HB_)
    | (go_at_call 19; (with_reducible apply Calls.mono); (case h => exact pumiceref06_Pack.calls _ _ _ _ _ _ HP.out); rintro e_ w2 ⟨v2, rfl, hv_, hb_⟩; obtain ⟨A2, c2, rfl, hl2, hf2⟩ := hv_; have X2 : Aside0 (Src (Value.int .u8) w2 [] A2 xs) := Aside0.mk (Src.of_C (h1 := fun _ => rfl) (Kd.F_now hf2)); clear hf2 hl2; have HB_ := HA.out.call1 hb_ rfl rfl rfl rfl; clear hb_ HA; have HA := Aside0.mk HB_; clear HB_; have H2 := Aside0.mk (Holds.start w2))
    | ((with_reducible apply text_); (case HH => first | exact H2.out | exact H2.out.any rfl rfl rfl rfl); (case hw => rfl); (case hev => conv => lhs; whnf); (case hv => rfl); (case hs => exact Try.underlying34); (case hd => exact Try.underlying9); (case he => exact Try.underlying5); (case hS => exact (X2.out.mono (by simp))); (case hl => exact HX.out); simp only [Act.put, List.setIfInBounds_toArray, List.set_cons_zero, List.set_cons_succ]))
  (apply end_list [.cell 2 32, .tmp 3]; (case hres => rfl); (case hd => rfl); (case hvs => apply vcell (by first | exact HA.out | exact HA.out.any rfl rfl rfl rfl); (case hp => rfl); (case hm => repeat (first | exact List.Mem.head _ | refine List.Mem.tail _ ?_)); (case hag => rfl); (case hi => kernel_rfl); (case hvs => apply Vals.tmp; exact .nil)); (case hl => simp); (case hR => exact ⟨rfl, HA.out.below⟩))
set_option maxHeartbeats 8000000 in
set_option maxRecDepth 100000 in
theorem runp_ok2 (A0 : Option Addr) (c0 : Nat) (l0 : List Int) (s : ByteArray) (w : World) (hr0 : Kd.C (Kd.int .u8) w A0 l0.length l0) (hs : strOfNums l0 = s) (hl : l0.length ≤ 281474976710656) (hsz : l0.length = s.size) (n : Nat) (hn : bt s 1 = (n : Int)) (g : Bool) (hg : (bt s 0 == 2) = g) (hz : 4 + n ≤ s.size) (xs : List Int) (e : Int) (pk : pumiceref06_Pack.f (s.extract 2 (2 + n)) (s.extract (4 + n) s.size) g = some (xs, e)) (hxl : xs.length ≤ 9223372036854775807) (f0 : decide ((s.size : Int) < 2) = false) (f1 : (bt s 0 != 1) = true) (f2 : (bt s 0 != 2) = false) (f3 : (e != 0) = false) (f4 : ((strOfNums xs).toList == s.toList) = true) :
    Calls Try.prog 27 #[.slice A0 l0.length c0] w fun e w' => e = .returned (.tuple #[.agg #[.string (s.extract 2 (2 + n)), .string (s.extract (4 + n) s.size), .bool g], .bool true]) ∧ Below w.heap.size w w' := by
  have HS : Aside0 (Src (Value.int .u8) w [] A0 l0) := Aside0.mk (Src.of_C (h1 := fun _ => rfl) hr0)
  have HL : Aside0 (l0.length ≤ 9223372036854775807) := Aside0.mk (by omega)
  have HA := Aside0.mk (Holds.start w)
  have HE := Aside0.mk hs
  obtain ⟨r0, r1⟩ := bt_range s 0
  obtain ⟨r2, r3⟩ := bt_range s 1
  have h2 : 2 ≤ s.size := by have := of_decide_eq_false f0; omega
  have b0 : (0 < s.size) = True := eq_true (by omega)
  have b1 : (1 < s.size) = True := eq_true (by omega)
  have b2 : ((0 : Int) < (s.size : Int)) = True := eq_true (by omega)
  have b3 : ((1 : Int) < (s.size : Int)) = True := eq_true (by omega)
  have hx0 : ∀ h : 0 < s.size, ((s[0]'h).toNat : Int) = bt s 0 := bt_at s 0
  have hx1 : ∀ h : 1 < s.size, ((s[1]'h).toNat : Int) = bt s 1 := bt_at s 1
  have hn2 : n < 256 := by omega
  have w1_ : wrap64 (n : Int) = (n : Int) := by unfold wrap64; omega
  have HP := Aside0.mk pk
  have HX := Aside0.mk hxl
  have HZ := Aside0.mk hz
  have f2_ : decide ((s.size : Int) < 2 + (n : Int) + 2) = false := decide_eq_false (by omega)
  have g0_ : (0 ≤ 2 + (n : Int)) = True := eq_true (by omega)
  have g1_ : (2 ≤ 2 + (n : Int)) = True := eq_true (by omega)
  have g2_ : (2 + (n : Int) ≤ (s.size : Int)) = True := eq_true (by omega)
  have g3_ : (0 ≤ 2 + (n : Int) + 2) = True := eq_true (by omega)
  have g4_ : (2 + (n : Int) + 2 ≤ (s.size : Int)) = True := eq_true (by omega)
  have W2 : Aside0 (wrap64 (2 + (n : Int)) = 2 + (n : Int) ∧ wrap64 (2 + (n : Int) + 2) = 2 + (n : Int) + 2 ∧ (2 + (n : Int)).toNat = 2 + n ∧ (2 + (n : Int) + 2).toNat = 4 + n) := Aside0.mk (by unfold wrap64; omega)
  clear w1_ hn2
  clear hr0 hs hl hsz pk hxl hz
  go_enter Try.func27, Try.ntmps27
  go_wp2_with (first
    | ((with_reducible apply load1_); (case HH => first | exact HA.out | exact HA.out.any rfl rfl rfl rfl); (case ht => rfl); (case hx => rfl); (case hw => rfl); (case hm => repeat (first | exact List.Mem.head _ | refine List.Mem.tail _ ?_)); (case hv => exact rfl); simp only [Act.put, List.setIfInBounds_toArray, List.set_cons_zero, List.set_cons_succ])
    | ((with_reducible apply loadN_ (n := 3)); (case HH => first | exact HA.out | exact HA.out.any rfl rfl rfl rfl); (case ht => rfl); (case hn => decide +kernel); (case hx => rfl); (case hw => rfl); (case hm => repeat (first | exact List.Mem.head _ | refine List.Mem.tail _ ?_)); (case hv => first | (simp only [List.drop_succ_cons, List.drop_zero, List.take_succ_cons, List.take_zero]; rfl) | rfl); (case hl => rfl); simp only [Act.put, List.setIfInBounds_toArray, List.set_cons_zero, List.set_cons_succ])
    | ((with_reducible apply alloc_ (z := (.agg #[.string ⟨#[]⟩, .string ⟨#[]⟩, .bool false]))); (case HH => first | exact HA.out | exact HA.out.any rfl rfl rfl rfl); (case hw => rfl); (case hz => kernel_rfl); (case hx => rfl); intro bz w1 HB_; simp only [Act.put, List.setIfInBounds_toArray, List.set_cons_zero, List.set_cons_succ]; clear HA; have HA := Aside0.mk HB_; clear HB_)
    | ((with_reducible apply store_); (case HH => first | exact HA.out | exact HA.out.any rfl rfl rfl rfl); (case hw => rfl); (case hx => rfl); (case hev => conv => lhs; whnf); (case hy => rfl); (case hm => repeat (first | exact Holds.At.here | apply Holds.At.there)); (case hl => rfl); (case hn => kernel_rfl); (case h1 => simp [Value.oneCell']); (case hi => simp); intro w1 HB_; simp only [splice, List.set_cons_zero, List.set_cons_succ] at HB_; clear HA; have HA := Aside0.mk HB_; clear HB_)
    | ((with_reducible apply text_); (case HH => first | exact HA.out | exact HA.out.any rfl rfl rfl rfl); (case hw => rfl); (case hev => conv => lhs; whnf); (case hv => rfl); (case hs => exact Try.underlying34); (case hd => exact Try.underlying9); (case he => exact Try.underlying5); (case hS => exact (HS.out.mono (by simp))); (case hl => exact HL.out); simp only [Act.put, List.setIfInBounds_toArray, List.set_cons_zero, List.set_cons_succ]; rw [HE.out]))
  refine start_H (by first | exact HA.out | exact HA.out.any rfl rfl rfl rfl) (n := 15) [] #[false, false, false, false, false, false, false, false, false, false, false, false, false, false, false] (by kernel_rfl) rfl rfl ?_
  refine pure_ (i := 0) (N := some 35) (v := ?_) (a' := ?_) #[true, false, false, false, false, false, false, false, false, false, false, false, false, false, false] rfl rfl (by kernel_rfl) (fun _ _ _ h => h) (Or.inl ⟨by rfl, ?_⟩) ?_ ?_
  rotate_left
  · intro w'
    go_simp
    with_reducible rfl
  rotate_left
  · simp only [Act.put, List.setIfInBounds_toArray, List.set_cons_zero, List.set_cons_succ, i64_w, i32_w]
    rfl
  refine pure_ (i := 1) (N := some 36) (v := ?_) (a' := ?_) #[true, true, false, false, false, false, false, false, false, false, false, false, false, false, false] rfl rfl (by kernel_rfl) (fun _ _ _ h => h) (Or.inl ⟨by rfl, ?_⟩) ?_ ?_
  rotate_left
  · intro w'
    go_simp
    with_reducible rfl
  rotate_left
  · simp only [Act.put, List.setIfInBounds_toArray, List.set_cons_zero, List.set_cons_succ, i64_w, i32_w]
    rfl
  refine pure_ (i := 4) (N := some 39) (v := ?_) (a' := ?_) #[true, true, false, false, true, false, false, false, false, false, false, false, false, false, false] rfl rfl (by kernel_rfl) (fun _ _ _ h => h) (Or.inl ⟨by rfl, ?_⟩) ?_ ?_
  rotate_left
  · intro w'
    go_simp
    with_reducible rfl
  rotate_left
  · simp only [Act.put, List.setIfInBounds_toArray, List.set_cons_zero, List.set_cons_succ, i64_w, i32_w]
    rfl
  refine pure_ (i := 5) (N := some 40) (v := ?_) (a' := ?_) #[true, true, false, false, true, true, false, false, false, false, false, false, false, false, false] rfl rfl (by kernel_rfl) (fun _ _ _ h => h) (Or.inl ⟨by rfl, ?_⟩) ?_ ?_
  rotate_left
  · intro w'
    go_simp
    with_reducible rfl
  rotate_left
  · simp only [Act.put, List.setIfInBounds_toArray, List.set_cons_zero, List.set_cons_succ, i64_w, i32_w]
    rfl
  refine pure_ (i := 9) (N := some 44) (v := ?_) (a' := ?_) #[true, true, false, false, true, true, false, false, false, true, false, false, false, false, false] rfl rfl (by kernel_rfl) (fun _ _ _ h => h) (Or.inl ⟨by rfl, ?_⟩) ?_ ?_
  rotate_left
  · intro w'
    go_simp
    with_reducible rfl
  rotate_left
  · simp only [Act.put, List.setIfInBounds_toArray, List.set_cons_zero, List.set_cons_succ, i64_w, i32_w]
    rfl
  refine take_ (i := 2) (N := some 37) (v := (.int .i64 (2 + (n : Int)))) (a' := ?_) #[true, true, true, false, true, true, false, false, false, true, false, false, false, false, false] rfl rfl (by kernel_rfl) (fun _ _ _ h => h) (Or.inl ⟨by rfl, ?_⟩) (by first | exact HA.out | exact HA.out.any rfl rfl rfl rfl | exact (HA.out.any rfl rfl rfl rfl).tail | exact (HA.out.any rfl rfl rfl rfl).tail.tail | exact (HA.out.any rfl rfl rfl rfl).tail.tail.tail) ?_ ?_
  · intro w' s0
    (skip; obtain ⟨q1, q2, _, _⟩ := W2.out; go_simp; try (rw [i64_w, q1]))
  rotate_left
  · simp only [Act.put, List.setIfInBounds_toArray, List.set_cons_zero, List.set_cons_succ, i64_w, i32_w]
    rfl
  refine take_ (i := 3) (N := some 38) (v := (.string (s.extract 2 (2 + n)))) (a' := ?_) #[true, true, true, true, true, true, false, false, false, true, false, false, false, false, false] rfl rfl (by kernel_rfl) (fun _ _ _ h => h) (Or.inl ⟨by rfl, ?_⟩) (by first | exact HA.out | exact HA.out.any rfl rfl rfl rfl | exact (HA.out.any rfl rfl rfl rfl).tail | exact (HA.out.any rfl rfl rfl rfl).tail.tail | exact (HA.out.any rfl rfl rfl rfl).tail.tail.tail) ?_ ?_
  · intro w' s0
    (skip; obtain ⟨_, _, q3, q4⟩ := W2.out; go_simp; try (rw [q3]))
  rotate_left
  · simp only [Act.put, List.setIfInBounds_toArray, List.set_cons_zero, List.set_cons_succ, i64_w, i32_w]
    rfl
  refine take_ (i := 6) (N := some 41) (v := (.int .i64 (2 + (n : Int)))) (a' := ?_) #[true, true, true, true, true, true, true, false, false, true, false, false, false, false, false] rfl rfl (by kernel_rfl) (fun _ _ _ h => h) (Or.inl ⟨by rfl, ?_⟩) (by first | exact HA.out | exact HA.out.any rfl rfl rfl rfl | exact (HA.out.any rfl rfl rfl rfl).tail | exact (HA.out.any rfl rfl rfl rfl).tail.tail | exact (HA.out.any rfl rfl rfl rfl).tail.tail.tail) ?_ ?_
  · intro w' s0
    (skip; obtain ⟨q1, q2, _, _⟩ := W2.out; go_simp; try (rw [i64_w, q1]))
  rotate_left
  · simp only [Act.put, List.setIfInBounds_toArray, List.set_cons_zero, List.set_cons_succ, i64_w, i32_w]
    rfl
  refine take_ (i := 7) (N := some 42) (v := (.int .i64 (2 + (n : Int) + 2))) (a' := ?_) #[true, true, true, true, true, true, true, true, false, true, false, false, false, false, false] rfl rfl (by kernel_rfl) (fun _ _ _ h => h) (Or.inl ⟨by rfl, ?_⟩) (by first | exact HA.out | exact HA.out.any rfl rfl rfl rfl | exact (HA.out.any rfl rfl rfl rfl).tail | exact (HA.out.any rfl rfl rfl rfl).tail.tail | exact (HA.out.any rfl rfl rfl rfl).tail.tail.tail) ?_ ?_
  · intro w' s0
    (skip; obtain ⟨q1, q2, _, _⟩ := W2.out; go_simp; try (rw [i64_w, q2]))
  rotate_left
  · simp only [Act.put, List.setIfInBounds_toArray, List.set_cons_zero, List.set_cons_succ, i64_w, i32_w]
    rfl
  refine take_ (i := 8) (N := some 43) (v := (.string (s.extract (4 + n) s.size))) (a' := ?_) #[true, true, true, true, true, true, true, true, true, true, false, false, false, false, false] rfl rfl (by kernel_rfl) (fun _ _ _ h => h) (Or.inl ⟨by rfl, ?_⟩) (by first | exact HA.out | exact HA.out.any rfl rfl rfl rfl | exact (HA.out.any rfl rfl rfl rfl).tail | exact (HA.out.any rfl rfl rfl rfl).tail.tail | exact (HA.out.any rfl rfl rfl rfl).tail.tail.tail) ?_ ?_
  · intro w' s0
    (skip; obtain ⟨_, _, q3, q4⟩ := W2.out; go_simp; try (rw [q4]))
  rotate_left
  · simp only [Act.put, List.setIfInBounds_toArray, List.set_cons_zero, List.set_cons_succ, i64_w, i32_w]
    rfl
  refine take_ (i := 10) (N := some 45) (v := (.int .u8 (bt s 0))) (a' := ?_) #[true, true, true, true, true, true, true, true, true, true, true, false, false, false, false] rfl rfl (by kernel_rfl) (fun _ _ _ h => h) (Or.inl ⟨by rfl, ?_⟩) (by first | exact HA.out | exact HA.out.any rfl rfl rfl rfl | exact (HA.out.any rfl rfl rfl rfl).tail | exact (HA.out.any rfl rfl rfl rfl).tail.tail | exact (HA.out.any rfl rfl rfl rfl).tail.tail.tail) ?_ ?_
  · intro w' s0
    (skip; go_simp)
  rotate_left
  · simp only [Act.put, List.setIfInBounds_toArray, List.set_cons_zero, List.set_cons_succ, i64_w, i32_w]
    rfl
  refine take_ (i := 11) (N := some 46) (v := (.bool g)) (a' := ?_) #[true, true, true, true, true, true, true, true, true, true, true, true, false, false, false] rfl rfl (by kernel_rfl) (fun _ _ _ h => h) (Or.inl ⟨by rfl, ?_⟩) (by first | exact HA.out | exact HA.out.any rfl rfl rfl rfl | exact (HA.out.any rfl rfl rfl rfl).tail | exact (HA.out.any rfl rfl rfl rfl).tail.tail | exact (HA.out.any rfl rfl rfl rfl).tail.tail.tail) ?_ ?_
  · intro w' s0
    (skip; go_simp)
  rotate_left
  · simp only [Act.put, List.setIfInBounds_toArray, List.set_cons_zero, List.set_cons_succ, i64_w, i32_w]
    rfl
  refine pure_ (i := 12) (N := some 47) (v := ?_) (a' := ?_) #[true, true, true, true, true, true, true, true, true, true, true, true, true, false, false] rfl rfl (by kernel_rfl) (fun _ _ _ h => h) (Or.inl ⟨by rfl, ?_⟩) ?_ ?_
  rotate_left
  · intro w'
    go_simp
    with_reducible rfl
  rotate_left
  · simp only [Act.put, List.setIfInBounds_toArray, List.set_cons_zero, List.set_cons_succ, i64_w, i32_w]
    rfl
  refine one_ (i := 13) (N := some 6) #[true, true, true, true, true, true, true, true, true, true, true, true, true, true, false] rfl rfl (by kernel_rfl) (by decide) (fun K hK => ?_)
  apply alloc_e (z := (.agg #[.string ⟨#[]⟩, .string ⟨#[]⟩, .bool false])); (case HH => first | exact HA.out | exact HA.out.any rfl rfl rfl rfl); (case hop => rfl); (case hN => rfl); (case hw => rfl); (case hz => kernel_rfl); (case hx => rfl); intro bi w1 HB_; clear HA; have HA := Aside0.mk HB_; clear HB_
  refine hK.out _ _ (by first | exact HA.out | exact HA.out.any rfl rfl rfl rfl | exact (HA.out.any rfl rfl rfl rfl).tail | exact (HA.out.any rfl rfl rfl rfl).tail.tail | exact (HA.out.any rfl rfl rfl rfl).tail.tail.tail) (fun hHeld => ?_)
  clear hK K
  refine norm_ (a' := ?_) ?_ ?_
  rotate_left
  · show Act.put _ (some 6) _ = _
    simp only [Act.put, List.setIfInBounds_toArray, List.set_cons_zero, List.set_cons_succ, i64_w, i32_w]
    rfl
  refine one_ (i := 14) (N := none) #[true, true, true, true, true, true, true, true, true, true, true, true, true, true, true] rfl rfl (by kernel_rfl) (by decide) (fun K hK => ?_)
  apply store_e; (case HH => first | exact HA.out | exact HA.out.any rfl rfl rfl rfl); (case hop => rfl); (case hN => rfl); (case hw => rfl); (case hx => rfl); (case hev => conv => lhs; whnf); (case hy => rfl); (case hm => repeat (first | exact Holds.At.here | apply Holds.At.there)); (case hl => rfl); (case hn => kernel_rfl); (case h1 => simp [Value.oneCell']); (case hi => simp); intro w1 HB_; simp only [splice, List.set_cons_zero, List.set_cons_succ] at HB_; clear HA; have HA := Aside0.mk HB_; clear HB_
  refine hK.out _ _ (by first | exact HA.out | exact HA.out.any rfl rfl rfl rfl | exact (HA.out.any rfl rfl rfl rfl).tail | exact (HA.out.any rfl rfl rfl rfl).tail.tail | exact (HA.out.any rfl rfl rfl rfl).tail.tail.tail) (fun hHeld => ?_)
  clear hK K
  refine done_ (by kernel_rfl) ?_
  go_wp2_with (first
    | ((with_reducible apply load1_); (case HH => first | exact HA.out | exact HA.out.any rfl rfl rfl rfl); (case ht => rfl); (case hx => rfl); (case hw => rfl); (case hm => repeat (first | exact List.Mem.head _ | refine List.Mem.tail _ ?_)); (case hv => exact rfl); simp only [Act.put, List.setIfInBounds_toArray, List.set_cons_zero, List.set_cons_succ])
    | ((with_reducible apply loadN_ (n := 3)); (case HH => first | exact HA.out | exact HA.out.any rfl rfl rfl rfl); (case ht => rfl); (case hn => decide +kernel); (case hx => rfl); (case hw => rfl); (case hm => repeat (first | exact List.Mem.head _ | refine List.Mem.tail _ ?_)); (case hv => first | (simp only [List.drop_succ_cons, List.drop_zero, List.take_succ_cons, List.take_zero]; rfl) | rfl); (case hl => rfl); simp only [Act.put, List.setIfInBounds_toArray, List.set_cons_zero, List.set_cons_succ])
    | ((with_reducible apply alloc_ (z := (.agg #[.string ⟨#[]⟩, .string ⟨#[]⟩, .bool false]))); (case HH => first | exact HA.out | exact HA.out.any rfl rfl rfl rfl); (case hw => rfl); (case hz => kernel_rfl); (case hx => rfl); intro bz w1 HB_; simp only [Act.put, List.setIfInBounds_toArray, List.set_cons_zero, List.set_cons_succ]; clear HA; have HA := Aside0.mk HB_; clear HB_)
    | ((with_reducible apply store_); (case HH => first | exact HA.out | exact HA.out.any rfl rfl rfl rfl); (case hw => rfl); (case hx => rfl); (case hev => conv => lhs; whnf); (case hy => rfl); (case hm => repeat (first | exact Holds.At.here | apply Holds.At.there)); (case hl => rfl); (case hn => kernel_rfl); (case h1 => simp [Value.oneCell']); (case hi => simp); intro w1 HB_; simp only [splice, List.set_cons_zero, List.set_cons_succ] at HB_; clear HA; have HA := Aside0.mk HB_; clear HB_)
    | (go_at_call 19; (with_reducible apply Calls.mono); (case h => exact pumiceref06_Pack.calls _ _ _ _ _ _ HP.out); rintro e_ w2 ⟨v2, rfl, hv_, hb_⟩; obtain ⟨A2, c2, rfl, hl2, hf2⟩ := hv_; have X2 : Aside0 (Src (Value.int .u8) w2 [] A2 xs) := Aside0.mk (Src.of_C (h1 := fun _ => rfl) (Kd.F_now hf2)); clear hf2 hl2; have HB_ := HA.out.call1 hb_ rfl rfl rfl rfl; clear hb_ HA; have HA := Aside0.mk HB_; clear HB_; have H2 := Aside0.mk (Holds.start w2))
    | ((with_reducible apply text_); (case HH => first | exact H2.out | exact H2.out.any rfl rfl rfl rfl); (case hw => rfl); (case hev => conv => lhs; whnf); (case hv => rfl); (case hs => exact Try.underlying34); (case hd => exact Try.underlying9); (case he => exact Try.underlying5); (case hS => exact (X2.out.mono (by simp))); (case hl => exact HX.out); simp only [Act.put, List.setIfInBounds_toArray, List.set_cons_zero, List.set_cons_succ]))
  (apply end_list [.cell 2 32, .tmp 3]; (case hres => rfl); (case hd => rfl); (case hvs => apply vcell (by first | exact HA.out | exact HA.out.any rfl rfl rfl rfl); (case hp => rfl); (case hm => repeat (first | exact List.Mem.head _ | refine List.Mem.tail _ ?_)); (case hag => rfl); (case hi => kernel_rfl); (case hvs => apply Vals.tmp; exact .nil)); (case hl => simp); (case hR => exact ⟨rfl, HA.out.below⟩))
/-- What bytes are read as_, as_ a record, by the reference. -/
def unpackR (s : ByteArray) : Option (ByteArray × ByteArray × Bool × Bool) :=
  if s.size < 2 then some (⟨#[]⟩, ⟨#[]⟩, false, false) else if bt s 0 ≠ 1 ∧ bt s 0 ≠ 2 then some (⟨#[]⟩, ⟨#[]⟩, false, false) else if s.size < 4 + (bt s 1).toNat then some (⟨#[]⟩, ⟨#[]⟩, false, false)
  else (pumiceref06_Pack.f (s.extract 2 (2 + (bt s 1).toNat)) (s.extract (4 + (bt s 1).toNat) s.size) (bt s 0 == 2)).bind fun r => if r.2 = 0 ∧ (strOfNums r.1).toList = s.toList then some (s.extract 2 (2 + (bt s 1).toNat), s.extract (4 + (bt s 1).toNat) s.size, bt s 0 == 2, true) else some (⟨#[]⟩, ⟨#[]⟩, false, false)
def pumiceref06_Unpack.f (l0 : List Int) : Option (ByteArray × ByteArray × Bool × Bool) := if l0.length ≤ 281474976710656 then unpackR (strOfNums l0) else none
theorem rpack_len {k v : ByteArray} {g : Bool} {xs : List Int} {e : Int} (h : pumiceref06_Pack.f k v g = some (xs, e)) : xs.length ≤ 1000 := by
  unfold pumiceref06_Pack.f at h
  obtain ⟨b, hb, h⟩ := Option.bind_eq_some_iff.mp h
  cases b with
  | false =>
    simp only [Bool.false_eq_true, if_false, Option.some.injEq, Prod.mk.injEq] at h
    rw [← h.1]
    simp
  | true =>
    obtain ⟨_, h2, h3⟩ := rright_sizes hb
    simp only [if_true, Option.some.injEq, Prod.mk.injEq] at h
    rw [← h.1]
    unfold packed
    simp only [List.length_append, leBytes_length, bytesOf_length]
    omega
theorem pumiceref06_Unpack.calls (A0 : Option Addr) (c0 : Nat) (l0 : List Int) (r1 : ByteArray) (r2 : ByteArray) (r3 : Bool) (r4 : Bool) (w : World) (hr0 : Kd.C (Kd.int .u8) w A0 l0.length l0) (hc0 : l0.length ≤ c0) (h : pumiceref06_Unpack.f l0 = some (r1, r2, r3, r4)) :
    Calls Try.prog 27 #[.slice A0 l0.length c0] w fun e w' => e = .returned (.tuple #[.agg #[.string r1, .string r2, .bool r3], .bool r4]) ∧ Below w.heap.size w w' := by
  unfold pumiceref06_Unpack.f at h
  by_cases hl : l0.length ≤ 281474976710656
  rotate_left
  · rw [if_neg hl] at h
    cases h
  rw [if_pos hl] at h
  obtain ⟨s, hs⟩ : ∃ s, strOfNums l0 = s := ⟨_, rfl⟩
  have hsz : l0.length = s.size := by rw [← hs, strOfNums_size]
  rw [hs] at h
  unfold unpackR at h
  obtain ⟨q2, q3⟩ := bt_range s 1
  have hn : bt s 1 = (((bt s 1).toNat : Nat) : Int) := by omega
  have hN : ∀ (a b : Int), ¬ a = b → (a != b) = true := fun a b h => by simp [h]
  have hB : ∀ (a b : Int), a = b → (a != b) = false := fun a b h => by subst h; simp
  by_cases h1 : s.size < 2
  · rw [if_pos h1] at h
    simp only [Option.some.injEq, Prod.mk.injEq] at h
    obtain ⟨rfl, rfl, rfl, rfl⟩ := h
    exact runp_SHORT A0 c0 l0 s w hr0 hs hl hsz (decide_eq_true (by omega))
  rw [if_neg h1] at h
  have f0 : decide ((s.size : Int) < 2) = false := decide_eq_false (by omega)
  by_cases h2 : bt s 0 ≠ 1 ∧ bt s 0 ≠ 2
  · rw [if_pos h2] at h
    simp only [Option.some.injEq, Prod.mk.injEq] at h
    obtain ⟨rfl, rfl, rfl, rfl⟩ := h
    exact runp_kind A0 c0 l0 s w hr0 hs hl hsz f0 (hN _ _ h2.1) (hN _ _ h2.2)
  rw [if_neg h2] at h
  by_cases h3 : s.size < 4 + (bt s 1).toNat
  · rw [if_pos h3] at h
    simp only [Option.some.injEq, Prod.mk.injEq] at h
    obtain ⟨rfl, rfl, rfl, rfl⟩ := h
    by_cases hk : bt s 0 = 1
    · exact runp_size1 A0 c0 l0 s w hr0 hs hl hsz _ hn f0 (hB _ _ hk) h3
    · exact runp_size2 A0 c0 l0 s w hr0 hs hl hsz _ hn f0 (hN _ _ hk) (hB _ _ (by omega)) h3
  rw [if_neg h3] at h
  obtain ⟨⟨xs, e⟩, hp, h⟩ := Option.bind_eq_some_iff.mp h
  dsimp only at h
  have hxl := rpack_len hp
  by_cases he : e = 0
  rotate_left
  · rw [if_neg (fun hh => he hh.1)] at h
    simp only [Option.some.injEq, Prod.mk.injEq] at h
    obtain ⟨rfl, rfl, rfl, rfl⟩ := h
    by_cases hk : bt s 0 = 1
    · exact runp_err1 A0 c0 l0 s w hr0 hs hl hsz _ hn _ rfl (by omega) xs e hp (by omega) f0 (hB _ _ hk) (hN _ _ he)
    · exact runp_err2 A0 c0 l0 s w hr0 hs hl hsz _ hn _ rfl (by omega) xs e hp (by omega) f0 (hN _ _ hk) (hB _ _ (by omega)) (hN _ _ he)
  by_cases hq : (strOfNums xs).toList = s.toList
  · rw [if_pos ⟨he, hq⟩] at h
    simp only [Option.some.injEq, Prod.mk.injEq] at h
    obtain ⟨rfl, rfl, rfl, rfl⟩ := h
    by_cases hk : bt s 0 = 1
    · exact runp_ok1 A0 c0 l0 s w hr0 hs hl hsz _ hn _ rfl (by omega) xs e hp (by omega) f0 (hB _ _ hk) (hB _ _ he) (by simp [hq])
    · exact runp_ok2 A0 c0 l0 s w hr0 hs hl hsz _ hn _ rfl (by omega) xs e hp (by omega) f0 (hN _ _ hk) (hB _ _ (by omega)) (hB _ _ he) (by simp [hq])
  · rw [if_neg (fun hh => hq hh.2)] at h
    simp only [Option.some.injEq, Prod.mk.injEq] at h
    obtain ⟨rfl, rfl, rfl, rfl⟩ := h
    by_cases hk : bt s 0 = 1
    · exact runp_other1 A0 c0 l0 s w hr0 hs hl hsz _ hn _ rfl (by omega) xs e hp (by omega) f0 (hB _ _ hk) (hB _ _ he) (by simp [hq])
    · exact runp_other2 A0 c0 l0 s w hr0 hs hl hsz _ hn _ rfl (by omega) xs e hp (by omega) f0 (hN _ _ hk) (hB _ _ (by omega)) (hB _ _ he) (by simp [hq])
end Go.Proofs.Ytakchpeohmkpkaa.Q

namespace Go.Proofs.Ytakchpeohmkpkaa.Q
open Go.RowKit Go.Proofs.YtakchpeohmkpkaaW.PrintWords Go.Proofs.YtakchpeohmkpkaaW.PrintLast Go.Proofs.YtakchpeohmkpkaaW.PrintMore Go.Proofs.Ytakchpeohmkpkaa.Sep
set_option linter.unusedVariables false
set_option linter.unusedSimpArgs false
set_option maxHeartbeats 8000000 in
set_option maxRecDepth 100000 in
theorem mark_ok (A0 : Option Addr) (c0 : Nat) (l0 : List Int) (w : World) (hr0 : Kd.C (Kd.int .u8) w A0 l0.length l0) (hc0 : l0.length ≤ c0) (hl : l0.length ≤ 281474976710656) (hb : Bytes l0) (f0 : (leVal (nxt l0 0 1) == 3) = true) (f1 : (leVal (nxt l0 0 1) != 3) = false) (f2 : ((((pos l0 (pos l0 (pos l0 0 1) 8) 1) : Nat) : Int) == (l0.length : Int)) = true) (f3 : decide (leVal (nxt l0 (pos l0 (pos l0 0 1) 8) 1) < 1) = false) (f4 : decide (16 < leVal (nxt l0 (pos l0 (pos l0 0 1) 8) 1)) = false) :
    Calls Try.prog 28 #[.slice A0 l0.length c0] w fun e w' => e = .returned (.tuple #[.int .u64 (leVal (nxt l0 (pos l0 0 1) 8)), .int .i64 (leVal (nxt l0 (pos l0 (pos l0 0 1) 8) 1)), .bool true]) ∧ Below w.heap.size w w' := by
  have HS : Aside0 (Src (Value.int .u8) w [] A0 l0) := Aside0.mk (Src.of_C (h1 := fun _ => rfl) hr0)
  have HL := Aside0.mk hl
  have hby := Aside0.mk hb
  have HC := Aside0.mk hc0
  have HA := Aside0.mk (Holds.start w)
  have HG := Aside0.mk (get_val (nxt l0 (pos l0 0 1) 8) (hb.nxt (pos l0 0 1) 8) (nxt_le l0 _ 8))
  clear hr0 hl hb hc0
  go_enter Try.func28, Try.ntmps28
  go_wp2_with (first
    | ((with_reducible apply load1_); (case HH => first | exact HA.out | exact HA.out.any rfl rfl rfl rfl); (case ht => rfl); (case hx => rfl); (case hw => rfl); (case hm => repeat (first | exact List.Mem.head _ | refine List.Mem.tail _ ?_)); (case hv => exact rfl); simp only [Act.put, List.setIfInBounds_toArray, List.set_cons_zero, List.set_cons_succ])
    | ((with_reducible apply box_); (case HH => first | exact HA.out | exact HA.out.any rfl rfl rfl rfl); (case hw => rfl); (case hev => conv => lhs; whnf); (case hy => rfl); intro bx w1 HB_; simp only [Act.put, List.setIfInBounds_toArray, List.set_cons_zero, List.set_cons_succ]; clear HA; have HA := Aside0.mk HB_; clear HB_)
    | (go_at_call 50; (with_reducible apply Calls.mono); (case h => exact number_at (by first | exact HA.out | exact HA.out.any rfl rfl rfl rfl) (by repeat (first | exact Holds.At.here | apply Holds.At.there)) HL.out HC.out (by first | exact pos_le _ _ _ | exact Nat.zero_le _ | omega) (by decide) (HS.out.mono (by simp)) hby.out); rintro e w1 ⟨rfl, HB_⟩; clear HA; have HA := Aside0.mk HB_; clear HB_)
    | (go_at_call 51; (with_reducible apply Calls.mono); (case h => exact next_at (k := 8) (by first | exact HA.out | exact HA.out.any rfl rfl rfl rfl) (by repeat (first | exact Holds.At.here | apply Holds.At.there)) HL.out HC.out (by exact pos_le _ _ _) (by decide) rfl HS.out); rintro e w1 ⟨A8, d8, rfl, hd8, hs8, HB_⟩; clear HA; have HA := Aside0.mk HB_; clear HB_; have HS8 := Aside0.mk hs8; have HD8 := Aside0.mk hd8; clear hs8 hd8)
    | (go_at_call 53; (with_reducible apply Calls.mono); (case h => exact bits_Get.calls 9 A8 d8 _ _ _ (HS8.out.C (h1 := fun _ => rfl) HA.out.none (by have := nxt_le l0 (pos l0 0 1) 8; omega)) HD8.out HG.out); rintro e w1 ⟨rfl, hb_⟩; have HB_ := HA.out.call1 hb_ rfl rfl rfl rfl; clear hb_ HA; have HA := Aside0.mk HB_; clear HB_)
    | (go_at_call 52; (with_reducible apply Calls.mono); (case h => exact done_calls _ _ _ _ l0 w _ _ [] (by first | exact HA.out | exact HA.out.any rfl rfl rfl rfl) (by repeat (first | exact List.Mem.head _ | refine List.Mem.tail _ ?_))); rintro e w' ⟨rfl, ⟨nd, rfl⟩⟩))
  (apply end_list [.tmp 2, .tmp 3, .tmp 4]; (case hres => rfl); (case hd => rfl); (case hvs => apply Vals.tmp; apply Vals.tmp; apply Vals.tmp; exact .nil); (case hl => simp); (case hR => exact ⟨rfl, by first | exact HA.out.below | exact (HA.out.drewN _).below⟩))
set_option maxHeartbeats 8000000 in
set_option maxRecDepth 100000 in
theorem mark_k (A0 : Option Addr) (c0 : Nat) (l0 : List Int) (w : World) (hr0 : Kd.C (Kd.int .u8) w A0 l0.length l0) (hc0 : l0.length ≤ c0) (hl : l0.length ≤ 281474976710656) (hb : Bytes l0) (f0 : (leVal (nxt l0 0 1) == 3) = false) (f1 : (leVal (nxt l0 0 1) != 3) = true) :
    Calls Try.prog 28 #[.slice A0 l0.length c0] w fun e w' => e = .returned (.tuple #[.int .u64 0, .int .i64 0, .bool false]) ∧ Below w.heap.size w w' := by
  have HS : Aside0 (Src (Value.int .u8) w [] A0 l0) := Aside0.mk (Src.of_C (h1 := fun _ => rfl) hr0)
  have HL := Aside0.mk hl
  have hby := Aside0.mk hb
  have HC := Aside0.mk hc0
  have HA := Aside0.mk (Holds.start w)
  have HG := Aside0.mk (get_val (nxt l0 (pos l0 0 1) 8) (hb.nxt (pos l0 0 1) 8) (nxt_le l0 _ 8))
  clear hr0 hl hb hc0
  go_enter Try.func28, Try.ntmps28
  go_wp2_with (first
    | ((with_reducible apply load1_); (case HH => first | exact HA.out | exact HA.out.any rfl rfl rfl rfl); (case ht => rfl); (case hx => rfl); (case hw => rfl); (case hm => repeat (first | exact List.Mem.head _ | refine List.Mem.tail _ ?_)); (case hv => exact rfl); simp only [Act.put, List.setIfInBounds_toArray, List.set_cons_zero, List.set_cons_succ])
    | ((with_reducible apply box_); (case HH => first | exact HA.out | exact HA.out.any rfl rfl rfl rfl); (case hw => rfl); (case hev => conv => lhs; whnf); (case hy => rfl); intro bx w1 HB_; simp only [Act.put, List.setIfInBounds_toArray, List.set_cons_zero, List.set_cons_succ]; clear HA; have HA := Aside0.mk HB_; clear HB_)
    | (go_at_call 50; (with_reducible apply Calls.mono); (case h => exact number_at (by first | exact HA.out | exact HA.out.any rfl rfl rfl rfl) (by repeat (first | exact Holds.At.here | apply Holds.At.there)) HL.out HC.out (by first | exact pos_le _ _ _ | exact Nat.zero_le _ | omega) (by decide) (HS.out.mono (by simp)) hby.out); rintro e w1 ⟨rfl, HB_⟩; clear HA; have HA := Aside0.mk HB_; clear HB_)
    | (go_at_call 51; (with_reducible apply Calls.mono); (case h => exact next_at (k := 8) (by first | exact HA.out | exact HA.out.any rfl rfl rfl rfl) (by repeat (first | exact Holds.At.here | apply Holds.At.there)) HL.out HC.out (by exact pos_le _ _ _) (by decide) rfl HS.out); rintro e w1 ⟨A8, d8, rfl, hd8, hs8, HB_⟩; clear HA; have HA := Aside0.mk HB_; clear HB_; have HS8 := Aside0.mk hs8; have HD8 := Aside0.mk hd8; clear hs8 hd8)
    | (go_at_call 53; (with_reducible apply Calls.mono); (case h => exact bits_Get.calls 9 A8 d8 _ _ _ (HS8.out.C (h1 := fun _ => rfl) HA.out.none (by have := nxt_le l0 (pos l0 0 1) 8; omega)) HD8.out HG.out); rintro e w1 ⟨rfl, hb_⟩; have HB_ := HA.out.call1 hb_ rfl rfl rfl rfl; clear hb_ HA; have HA := Aside0.mk HB_; clear HB_)
    | (go_at_call 52; (with_reducible apply Calls.mono); (case h => exact done_calls _ _ _ _ l0 w _ _ [] (by first | exact HA.out | exact HA.out.any rfl rfl rfl rfl) (by repeat (first | exact List.Mem.head _ | refine List.Mem.tail _ ?_))); rintro e w' ⟨rfl, ⟨nd, rfl⟩⟩))
  (apply end_list [.tmp 2, .tmp 3, .tmp 4]; (case hres => rfl); (case hd => rfl); (case hvs => apply Vals.tmp; apply Vals.tmp; apply Vals.tmp; exact .nil); (case hl => simp); (case hR => exact ⟨rfl, by first | exact HA.out.below | exact (HA.out.drewN _).below⟩))
set_option maxHeartbeats 8000000 in
set_option maxRecDepth 100000 in
theorem mark_d (A0 : Option Addr) (c0 : Nat) (l0 : List Int) (w : World) (hr0 : Kd.C (Kd.int .u8) w A0 l0.length l0) (hc0 : l0.length ≤ c0) (hl : l0.length ≤ 281474976710656) (hb : Bytes l0) (f0 : (leVal (nxt l0 0 1) == 3) = true) (f1 : (leVal (nxt l0 0 1) != 3) = false) (f2 : ((((pos l0 (pos l0 (pos l0 0 1) 8) 1) : Nat) : Int) == (l0.length : Int)) = false) :
    Calls Try.prog 28 #[.slice A0 l0.length c0] w fun e w' => e = .returned (.tuple #[.int .u64 0, .int .i64 0, .bool false]) ∧ Below w.heap.size w w' := by
  have HS : Aside0 (Src (Value.int .u8) w [] A0 l0) := Aside0.mk (Src.of_C (h1 := fun _ => rfl) hr0)
  have HL := Aside0.mk hl
  have hby := Aside0.mk hb
  have HC := Aside0.mk hc0
  have HA := Aside0.mk (Holds.start w)
  have HG := Aside0.mk (get_val (nxt l0 (pos l0 0 1) 8) (hb.nxt (pos l0 0 1) 8) (nxt_le l0 _ 8))
  clear hr0 hl hb hc0
  go_enter Try.func28, Try.ntmps28
  go_wp2_with (first
    | ((with_reducible apply load1_); (case HH => first | exact HA.out | exact HA.out.any rfl rfl rfl rfl); (case ht => rfl); (case hx => rfl); (case hw => rfl); (case hm => repeat (first | exact List.Mem.head _ | refine List.Mem.tail _ ?_)); (case hv => exact rfl); simp only [Act.put, List.setIfInBounds_toArray, List.set_cons_zero, List.set_cons_succ])
    | ((with_reducible apply box_); (case HH => first | exact HA.out | exact HA.out.any rfl rfl rfl rfl); (case hw => rfl); (case hev => conv => lhs; whnf); (case hy => rfl); intro bx w1 HB_; simp only [Act.put, List.setIfInBounds_toArray, List.set_cons_zero, List.set_cons_succ]; clear HA; have HA := Aside0.mk HB_; clear HB_)
    | (go_at_call 50; (with_reducible apply Calls.mono); (case h => exact number_at (by first | exact HA.out | exact HA.out.any rfl rfl rfl rfl) (by repeat (first | exact Holds.At.here | apply Holds.At.there)) HL.out HC.out (by first | exact pos_le _ _ _ | exact Nat.zero_le _ | omega) (by decide) (HS.out.mono (by simp)) hby.out); rintro e w1 ⟨rfl, HB_⟩; clear HA; have HA := Aside0.mk HB_; clear HB_)
    | (go_at_call 51; (with_reducible apply Calls.mono); (case h => exact next_at (k := 8) (by first | exact HA.out | exact HA.out.any rfl rfl rfl rfl) (by repeat (first | exact Holds.At.here | apply Holds.At.there)) HL.out HC.out (by exact pos_le _ _ _) (by decide) rfl HS.out); rintro e w1 ⟨A8, d8, rfl, hd8, hs8, HB_⟩; clear HA; have HA := Aside0.mk HB_; clear HB_; have HS8 := Aside0.mk hs8; have HD8 := Aside0.mk hd8; clear hs8 hd8)
    | (go_at_call 53; (with_reducible apply Calls.mono); (case h => exact bits_Get.calls 9 A8 d8 _ _ _ (HS8.out.C (h1 := fun _ => rfl) HA.out.none (by have := nxt_le l0 (pos l0 0 1) 8; omega)) HD8.out HG.out); rintro e w1 ⟨rfl, hb_⟩; have HB_ := HA.out.call1 hb_ rfl rfl rfl rfl; clear hb_ HA; have HA := Aside0.mk HB_; clear HB_)
    | (go_at_call 52; (with_reducible apply Calls.mono); (case h => exact done_calls _ _ _ _ l0 w _ _ [] (by first | exact HA.out | exact HA.out.any rfl rfl rfl rfl) (by repeat (first | exact List.Mem.head _ | refine List.Mem.tail _ ?_))); rintro e w' ⟨rfl, ⟨nd, rfl⟩⟩))
  (apply end_list [.tmp 2, .tmp 3, .tmp 4]; (case hres => rfl); (case hd => rfl); (case hvs => apply Vals.tmp; apply Vals.tmp; apply Vals.tmp; exact .nil); (case hl => simp); (case hR => exact ⟨rfl, by first | exact HA.out.below | exact (HA.out.drewN _).below⟩))
set_option maxHeartbeats 8000000 in
set_option maxRecDepth 100000 in
theorem mark_l (A0 : Option Addr) (c0 : Nat) (l0 : List Int) (w : World) (hr0 : Kd.C (Kd.int .u8) w A0 l0.length l0) (hc0 : l0.length ≤ c0) (hl : l0.length ≤ 281474976710656) (hb : Bytes l0) (f0 : (leVal (nxt l0 0 1) == 3) = true) (f1 : (leVal (nxt l0 0 1) != 3) = false) (f2 : ((((pos l0 (pos l0 (pos l0 0 1) 8) 1) : Nat) : Int) == (l0.length : Int)) = true) (f3 : decide (leVal (nxt l0 (pos l0 (pos l0 0 1) 8) 1) < 1) = true) :
    Calls Try.prog 28 #[.slice A0 l0.length c0] w fun e w' => e = .returned (.tuple #[.int .u64 0, .int .i64 0, .bool false]) ∧ Below w.heap.size w w' := by
  have HS : Aside0 (Src (Value.int .u8) w [] A0 l0) := Aside0.mk (Src.of_C (h1 := fun _ => rfl) hr0)
  have HL := Aside0.mk hl
  have hby := Aside0.mk hb
  have HC := Aside0.mk hc0
  have HA := Aside0.mk (Holds.start w)
  have HG := Aside0.mk (get_val (nxt l0 (pos l0 0 1) 8) (hb.nxt (pos l0 0 1) 8) (nxt_le l0 _ 8))
  clear hr0 hl hb hc0
  go_enter Try.func28, Try.ntmps28
  go_wp2_with (first
    | ((with_reducible apply load1_); (case HH => first | exact HA.out | exact HA.out.any rfl rfl rfl rfl); (case ht => rfl); (case hx => rfl); (case hw => rfl); (case hm => repeat (first | exact List.Mem.head _ | refine List.Mem.tail _ ?_)); (case hv => exact rfl); simp only [Act.put, List.setIfInBounds_toArray, List.set_cons_zero, List.set_cons_succ])
    | ((with_reducible apply box_); (case HH => first | exact HA.out | exact HA.out.any rfl rfl rfl rfl); (case hw => rfl); (case hev => conv => lhs; whnf); (case hy => rfl); intro bx w1 HB_; simp only [Act.put, List.setIfInBounds_toArray, List.set_cons_zero, List.set_cons_succ]; clear HA; have HA := Aside0.mk HB_; clear HB_)
    | (go_at_call 50; (with_reducible apply Calls.mono); (case h => exact number_at (by first | exact HA.out | exact HA.out.any rfl rfl rfl rfl) (by repeat (first | exact Holds.At.here | apply Holds.At.there)) HL.out HC.out (by first | exact pos_le _ _ _ | exact Nat.zero_le _ | omega) (by decide) (HS.out.mono (by simp)) hby.out); rintro e w1 ⟨rfl, HB_⟩; clear HA; have HA := Aside0.mk HB_; clear HB_)
    | (go_at_call 51; (with_reducible apply Calls.mono); (case h => exact next_at (k := 8) (by first | exact HA.out | exact HA.out.any rfl rfl rfl rfl) (by repeat (first | exact Holds.At.here | apply Holds.At.there)) HL.out HC.out (by exact pos_le _ _ _) (by decide) rfl HS.out); rintro e w1 ⟨A8, d8, rfl, hd8, hs8, HB_⟩; clear HA; have HA := Aside0.mk HB_; clear HB_; have HS8 := Aside0.mk hs8; have HD8 := Aside0.mk hd8; clear hs8 hd8)
    | (go_at_call 53; (with_reducible apply Calls.mono); (case h => exact bits_Get.calls 9 A8 d8 _ _ _ (HS8.out.C (h1 := fun _ => rfl) HA.out.none (by have := nxt_le l0 (pos l0 0 1) 8; omega)) HD8.out HG.out); rintro e w1 ⟨rfl, hb_⟩; have HB_ := HA.out.call1 hb_ rfl rfl rfl rfl; clear hb_ HA; have HA := Aside0.mk HB_; clear HB_)
    | (go_at_call 52; (with_reducible apply Calls.mono); (case h => exact done_calls _ _ _ _ l0 w _ _ [] (by first | exact HA.out | exact HA.out.any rfl rfl rfl rfl) (by repeat (first | exact List.Mem.head _ | refine List.Mem.tail _ ?_))); rintro e w' ⟨rfl, ⟨nd, rfl⟩⟩))
  (apply end_list [.tmp 2, .tmp 3, .tmp 4]; (case hres => rfl); (case hd => rfl); (case hvs => apply Vals.tmp; apply Vals.tmp; apply Vals.tmp; exact .nil); (case hl => simp); (case hR => exact ⟨rfl, by first | exact HA.out.below | exact (HA.out.drewN _).below⟩))
set_option maxHeartbeats 8000000 in
set_option maxRecDepth 100000 in
theorem mark_h (A0 : Option Addr) (c0 : Nat) (l0 : List Int) (w : World) (hr0 : Kd.C (Kd.int .u8) w A0 l0.length l0) (hc0 : l0.length ≤ c0) (hl : l0.length ≤ 281474976710656) (hb : Bytes l0) (f0 : (leVal (nxt l0 0 1) == 3) = true) (f1 : (leVal (nxt l0 0 1) != 3) = false) (f2 : ((((pos l0 (pos l0 (pos l0 0 1) 8) 1) : Nat) : Int) == (l0.length : Int)) = true) (f3 : decide (leVal (nxt l0 (pos l0 (pos l0 0 1) 8) 1) < 1) = false) (f4 : decide (16 < leVal (nxt l0 (pos l0 (pos l0 0 1) 8) 1)) = true) :
    Calls Try.prog 28 #[.slice A0 l0.length c0] w fun e w' => e = .returned (.tuple #[.int .u64 0, .int .i64 0, .bool false]) ∧ Below w.heap.size w w' := by
  have HS : Aside0 (Src (Value.int .u8) w [] A0 l0) := Aside0.mk (Src.of_C (h1 := fun _ => rfl) hr0)
  have HL := Aside0.mk hl
  have hby := Aside0.mk hb
  have HC := Aside0.mk hc0
  have HA := Aside0.mk (Holds.start w)
  have HG := Aside0.mk (get_val (nxt l0 (pos l0 0 1) 8) (hb.nxt (pos l0 0 1) 8) (nxt_le l0 _ 8))
  clear hr0 hl hb hc0
  go_enter Try.func28, Try.ntmps28
  go_wp2_with (first
    | ((with_reducible apply load1_); (case HH => first | exact HA.out | exact HA.out.any rfl rfl rfl rfl); (case ht => rfl); (case hx => rfl); (case hw => rfl); (case hm => repeat (first | exact List.Mem.head _ | refine List.Mem.tail _ ?_)); (case hv => exact rfl); simp only [Act.put, List.setIfInBounds_toArray, List.set_cons_zero, List.set_cons_succ])
    | ((with_reducible apply box_); (case HH => first | exact HA.out | exact HA.out.any rfl rfl rfl rfl); (case hw => rfl); (case hev => conv => lhs; whnf); (case hy => rfl); intro bx w1 HB_; simp only [Act.put, List.setIfInBounds_toArray, List.set_cons_zero, List.set_cons_succ]; clear HA; have HA := Aside0.mk HB_; clear HB_)
    | (go_at_call 50; (with_reducible apply Calls.mono); (case h => exact number_at (by first | exact HA.out | exact HA.out.any rfl rfl rfl rfl) (by repeat (first | exact Holds.At.here | apply Holds.At.there)) HL.out HC.out (by first | exact pos_le _ _ _ | exact Nat.zero_le _ | omega) (by decide) (HS.out.mono (by simp)) hby.out); rintro e w1 ⟨rfl, HB_⟩; clear HA; have HA := Aside0.mk HB_; clear HB_)
    | (go_at_call 51; (with_reducible apply Calls.mono); (case h => exact next_at (k := 8) (by first | exact HA.out | exact HA.out.any rfl rfl rfl rfl) (by repeat (first | exact Holds.At.here | apply Holds.At.there)) HL.out HC.out (by exact pos_le _ _ _) (by decide) rfl HS.out); rintro e w1 ⟨A8, d8, rfl, hd8, hs8, HB_⟩; clear HA; have HA := Aside0.mk HB_; clear HB_; have HS8 := Aside0.mk hs8; have HD8 := Aside0.mk hd8; clear hs8 hd8)
    | (go_at_call 53; (with_reducible apply Calls.mono); (case h => exact bits_Get.calls 9 A8 d8 _ _ _ (HS8.out.C (h1 := fun _ => rfl) HA.out.none (by have := nxt_le l0 (pos l0 0 1) 8; omega)) HD8.out HG.out); rintro e w1 ⟨rfl, hb_⟩; have HB_ := HA.out.call1 hb_ rfl rfl rfl rfl; clear hb_ HA; have HA := Aside0.mk HB_; clear HB_)
    | (go_at_call 52; (with_reducible apply Calls.mono); (case h => exact done_calls _ _ _ _ l0 w _ _ [] (by first | exact HA.out | exact HA.out.any rfl rfl rfl rfl) (by repeat (first | exact List.Mem.head _ | refine List.Mem.tail _ ?_))); rintro e w' ⟨rfl, ⟨nd, rfl⟩⟩))
  (apply end_list [.tmp 2, .tmp 3, .tmp 4]; (case hres => rfl); (case hd => rfl); (case hvs => apply Vals.tmp; apply Vals.tmp; apply Vals.tmp; exact .nil); (case hl => simp); (case hR => exact ⟨rfl, by first | exact HA.out.below | exact (HA.out.drewN _).below⟩))
/-- What bytes are read as_, as_ a mark. -/
def parseM (l0 : List Int) : Int × Int × Bool := if leVal (nxt l0 0 1) = 3 ∧ (pos l0 (pos l0 (pos l0 0 1) 8) 1) = l0.length ∧ 1 ≤ leVal (nxt l0 (pos l0 (pos l0 0 1) 8) 1) ∧ leVal (nxt l0 (pos l0 (pos l0 0 1) 8) 1) ≤ 16 then (leVal (nxt l0 (pos l0 0 1) 8), leVal (nxt l0 (pos l0 (pos l0 0 1) 8) 1), true) else (0, 0, false)
def node_ParseMark.f (l0 : List Int) : Option (Int × Int × Bool) := if byteB l0 = true ∧ l0.length ≤ 281474976710656 then some (parseM l0) else none
theorem node_ParseMark.calls (A0 : Option Addr) (c0 : Nat) (l0 : List Int) (r1 : Int) (r2 : Int) (r3 : Bool) (w : World) (hr0 : Kd.C (Kd.int .u8) w A0 l0.length l0) (hc0 : l0.length ≤ c0) (h : node_ParseMark.f l0 = some (r1, r2, r3)) :
    Calls Try.prog 28 #[.slice A0 l0.length c0] w fun e w' => e = .returned (.tuple #[.int .u64 r1, .int .i64 r2, .bool r3]) ∧ Below w.heap.size w w' := by
  unfold node_ParseMark.f at h
  by_cases hbl : byteB l0 = true ∧ l0.length ≤ 281474976710656
  rotate_left
  · rw [if_neg hbl] at h
    cases h
  rw [if_pos hbl] at h
  obtain ⟨hb, hl⟩ := hbl
  replace hb := byteB_spec hb
  replace h := Option.some.inj h
  unfold parseM at h
  have hB : ∀ (a b : Int), a = b → (a == b) = true ∧ (a != b) = false := fun a b h => by subst h; simp
  have hN : ∀ (a b : Int), ¬ a = b → (a == b) = false ∧ (a != b) = true := fun a b h => by simp [h]
  by_cases h1 : leVal (nxt l0 0 1) = 3
  rotate_left
  · rw [if_neg (fun hh => h1 hh.1)] at h
    simp only [Prod.mk.injEq] at h
    obtain ⟨rfl, rfl, rfl⟩ := h
    exact mark_k A0 c0 l0 w hr0 hc0 hl hb (hN _ _ h1).1 (hN _ _ h1).2
  by_cases h2 : (pos l0 (pos l0 (pos l0 0 1) 8) 1) = l0.length
  rotate_left
  · rw [if_neg (fun hh => h2 hh.2.1)] at h
    simp only [Prod.mk.injEq] at h
    obtain ⟨rfl, rfl, rfl⟩ := h
    exact mark_d A0 c0 l0 w hr0 hc0 hl hb (hB _ _ h1).1 (hB _ _ h1).2 (hN _ _ (by omega)).1
  by_cases h3 : leVal (nxt l0 (pos l0 (pos l0 0 1) 8) 1) < 1
  · rw [if_neg (fun hh => by omega)] at h
    simp only [Prod.mk.injEq] at h
    obtain ⟨rfl, rfl, rfl⟩ := h
    exact mark_l A0 c0 l0 w hr0 hc0 hl hb (hB _ _ h1).1 (hB _ _ h1).2 (hB _ _ (by omega)).1 (decide_eq_true h3)
  by_cases h4 : 16 < leVal (nxt l0 (pos l0 (pos l0 0 1) 8) 1)
  · rw [if_neg (fun hh => by omega)] at h
    simp only [Prod.mk.injEq] at h
    obtain ⟨rfl, rfl, rfl⟩ := h
    exact mark_h A0 c0 l0 w hr0 hc0 hl hb (hB _ _ h1).1 (hB _ _ h1).2 (hB _ _ (by omega)).1 (decide_eq_false h3) (decide_eq_true h4)
  · rw [if_pos ⟨h1, h2, by omega, by omega⟩] at h
    simp only [Prod.mk.injEq] at h
    obtain ⟨rfl, rfl, rfl⟩ := h
    exact mark_ok A0 c0 l0 w hr0 hc0 hl hb (hB _ _ h1).1 (hB _ _ h1).2 (hB _ _ (by omega)).1 (decide_eq_false h3) (decide_eq_false h4)
end Go.Proofs.Ytakchpeohmkpkaa.Q

namespace Go.Proofs.Ytakchpeohmkpkaa.Q
open Go.RowKit Go.Proofs.YtakchpeohmkpkaaW.PrintWords Go.Proofs.YtakchpeohmkpkaaW.PrintLast Go.Proofs.YtakchpeohmkpkaaW.PrintMore Go.Proofs.Ytakchpeohmkpkaa.Sep
set_option linter.unusedVariables false
set_option linter.unusedSimpArgs false
set_option maxHeartbeats 8000000 in
set_option maxRecDepth 100000 in
theorem rpm_ok (A0 : Option Addr) (c0 : Nat) (b0 b1 b2 b3 b4 b5 b6 b7 b8 b9 : Int) (w : World) (hr0 : Kd.C (Kd.int .u8) w A0 10 [b0, b1, b2, b3, b4, b5, b6, b7, b8, b9]) (hc0 : 10 ≤ c0) (hb : Bytes [b0, b1, b2, b3, b4, b5, b6, b7, b8, b9]) (f0 : (b0 == 3) = true) (f1 : (b0 != 3) = false) (f2 : decide (b9 < 1) = false) (f3 : decide (16 < b9) = false) :
    Calls Try.prog 29 #[.slice A0 10 c0] w fun e w' => e = .returned (.tuple #[.int .u64 (leVal [b1, b2, b3, b4, b5, b6, b7, b8]), .int .i64 b9, .bool true]) ∧ Below w.heap.size w w' := by
  have HS : Aside0 (Src (Value.int .u8) w [] A0 [b0, b1, b2, b3, b4, b5, b6, b7, b8, b9]) := Aside0.mk (Src.of_C (h1 := fun _ => rfl) hr0)
  obtain ⟨b, off, e0, hx0⟩ := HS.out.cell (Holds.start w) (j := 0) rfl
  cases e0
  obtain ⟨b', off', e9, hx9⟩ := HS.out.cell (Holds.start w) (j := 9) rfl
  cases e9
  rw [Nat.add_zero] at hx0
  have HSd : Aside0 (Src (Value.int .u8) w [] (some ⟨b, off + 1, none⟩) [b1, b2, b3, b4, b5, b6, b7, b8]) := Aside0.mk ((HS.out.drop 1).take 8)
  have h9 := hb b9 (by simp)
  have w9 : wrap64 b9 = b9 := by unfold wrap64; omega
  have HG := Aside0.mk (rget_val [b1, b2, b3, b4, b5, b6, b7, b8] (fun x hx => hb x (List.mem_cons_of_mem _ (List.mem_append_left [b9] hx))) (by simp))
  have HC := Aside0.mk hc0
  have HA := Aside0.mk (Holds.start w)
  clear hr0 hb hc0
  go_enter Try.func29, Try.ntmps29
  go_wp2
  skip
  refine start_H (by first | exact HA.out | exact HA.out.any rfl rfl rfl rfl) (n := 10) [] #[false, false, false, false, false, false, false, false, false, false] (by kernel_rfl) rfl rfl ?_
  refine pure_ (i := 0) (N := some 26) (v := ?_) (a' := ?_) #[true, false, false, false, false, false, false, false, false, false] rfl rfl (by kernel_rfl) (fun _ _ _ h => h) (Or.inl ⟨by rfl, ?_⟩) ?_ ?_
  rotate_left
  · intro w'
    go_simp
    with_reducible rfl
  rotate_left
  · simp only [Act.put, List.setIfInBounds_toArray, List.set_cons_zero, List.set_cons_succ, i64_w, i32_w]
    rfl
  refine pure_ (i := 3) (N := some 29) (v := ?_) (a' := ?_) #[true, false, false, true, false, false, false, false, false, false] rfl rfl (by kernel_rfl) (fun _ _ _ h => h) (Or.inl ⟨by rfl, ?_⟩) ?_ ?_
  rotate_left
  · intro w'
    go_simp
    with_reducible rfl
  rotate_left
  · simp only [Act.put, List.setIfInBounds_toArray, List.set_cons_zero, List.set_cons_succ, i64_w, i32_w]
    rfl
  refine pure_ (i := 4) (N := some 30) (v := ?_) (a' := ?_) #[true, false, false, true, true, false, false, false, false, false] rfl rfl (by kernel_rfl) (fun _ _ _ h => h) (Or.inl ⟨by rfl, ?_⟩) ?_ ?_
  rotate_left
  · intro w'
    go_simp
    with_reducible rfl
  rotate_left
  · simp only [Act.put, List.setIfInBounds_toArray, List.set_cons_zero, List.set_cons_succ, i64_w, i32_w]
    rfl
  refine take_ (i := 1) (N := some 27) (v := (.slice (some ⟨b, off + 1, none⟩) 8 (c0 - 1))) (a' := ?_) #[true, true, false, true, true, false, false, false, false, false] rfl rfl (by kernel_rfl) (fun _ _ _ h => h) (Or.inl ⟨by rfl, ?_⟩) (by first | exact HA.out | exact HA.out.any rfl rfl rfl rfl | exact (HA.out.any rfl rfl rfl rfl).tail | exact (HA.out.any rfl rfl rfl rfl).tail.tail | exact (HA.out.any rfl rfl rfl rfl).tail.tail.tail) ?_ ?_
  · intro w' s0
    (skip; have hc10 := HC.out; clear hx0 hx9; go_simp; rw [if_pos (by omega : (9 : Int) ≤ (c0 : Int)), if_neg (by omega : ¬ c0 = 1)])
  rotate_left
  · simp only [Act.put, List.setIfInBounds_toArray, List.set_cons_zero, List.set_cons_succ, i64_w, i32_w]
    rfl
  refine take_ (i := 5) (N := some 31) (v := (.int .u8 b9)) (a' := ?_) #[true, true, false, true, true, true, false, false, false, false] rfl rfl (by kernel_rfl) (fun _ _ _ h => h) (Or.inl ⟨by rfl, ?_⟩) (by first | exact HA.out | exact HA.out.any rfl rfl rfl rfl | exact (HA.out.any rfl rfl rfl rfl).tail | exact (HA.out.any rfl rfl rfl rfl).tail.tail | exact (HA.out.any rfl rfl rfl rfl).tail.tail.tail) ?_ ?_
  · intro w' s0
    (obtain ⟨b_, off_, e_, hx_⟩ := HS.out.cell s0 (j := 9) rfl; cases e_; exact run_load1 rfl (by decide +kernel) rfl hx_)
  rotate_left
  · simp only [Act.put, List.setIfInBounds_toArray, List.set_cons_zero, List.set_cons_succ, i64_w, i32_w]
    rfl
  refine pure_ (i := 6) (N := some 32) (v := ?_) (a' := ?_) #[true, true, false, true, true, true, true, false, false, false] rfl rfl (by kernel_rfl) (fun _ _ _ h => h) (Or.inl ⟨by rfl, ?_⟩) ?_ ?_
  rotate_left
  · intro w'
    go_simp
    with_reducible rfl
  rotate_left
  · simp only [Act.put, List.setIfInBounds_toArray, List.set_cons_zero, List.set_cons_succ, i64_w, i32_w]
    rfl
  refine one_ (i := 2) (N := some 28) #[true, true, true, true, true, true, true, false, false, false] rfl rfl (by kernel_rfl) (by decide) (fun K hK => ?_)
  apply call_e Try.func54 (args := #[.slice (some ⟨b, off + 1, none⟩) 8 (c0 - 1)]); (case hname => kernel_rfl); (case hb => rfl); (case hop => rfl); (case hN => rfl); (case hw => rfl); (case hargs => ((try simp only [List.map_toArray, List.map_cons, List.map_nil]); first | done | rfl)); (case hcl => exact pumiceref01_Get.calls 9 (some ⟨b, off + 1, none⟩) (c0 - 1) [b1, b2, b3, b4, b5, b6, b7, b8] (leVal [b1, b2, b3, b4, b5, b6, b7, b8]) _ (HSd.out.C (h1 := fun _ => rfl) (by first | exact HA.out | exact HA.out.any rfl rfl rfl rfl) (by simp)) (by have := HC.out; simp; omega) HG.out); rintro e w1 ⟨rfl, hb_⟩; refine ⟨_, rfl, ?_⟩; (have HB_ := HA.out.call1 (Drawn0.below hb_) rfl rfl rfl rfl; clear hb_ HA; have HA := Aside0.mk HB_; clear HB_)
  refine hK.out _ _ (by first | exact HA.out | exact HA.out.any rfl rfl rfl rfl | exact (HA.out.any rfl rfl rfl rfl).tail | exact (HA.out.any rfl rfl rfl rfl).tail.tail | exact (HA.out.any rfl rfl rfl rfl).tail.tail.tail) (fun hHeld => ?_)
  clear hK K
  refine norm_ (a' := ?_) ?_ ?_
  rotate_left
  · show Act.put _ (some 28) _ = _
    simp only [Act.put, List.setIfInBounds_toArray, List.set_cons_zero, List.set_cons_succ, i64_w, i32_w]
    rfl
  refine pure_ (i := 7) (N := some 2) (v := ?_) (a' := ?_) #[true, true, true, true, true, true, true, true, false, false] rfl rfl (by kernel_rfl) (fun _ _ _ h => h) (Or.inl ⟨by rfl, ?_⟩) ?_ ?_
  rotate_left
  · intro w'
    go_simp
    with_reducible rfl
  rotate_left
  · simp only [Act.put, List.setIfInBounds_toArray, List.set_cons_zero, List.set_cons_succ, i64_w, i32_w]
    rfl
  refine pure_ (i := 8) (N := some 3) (v := ?_) (a' := ?_) #[true, true, true, true, true, true, true, true, true, false] rfl rfl (by kernel_rfl) (fun _ _ _ h => h) (Or.inl ⟨by rfl, ?_⟩) ?_ ?_
  rotate_left
  · intro w'
    go_simp
    with_reducible rfl
  rotate_left
  · simp only [Act.put, List.setIfInBounds_toArray, List.set_cons_zero, List.set_cons_succ, i64_w, i32_w]
    rfl
  refine pure_ (i := 9) (N := some 4) (v := ?_) (a' := ?_) #[true, true, true, true, true, true, true, true, true, true] rfl rfl (by kernel_rfl) (fun _ _ _ h => h) (Or.inl ⟨by rfl, ?_⟩) ?_ ?_
  rotate_left
  · intro w'
    go_simp
    with_reducible rfl
  rotate_left
  · simp only [Act.put, List.setIfInBounds_toArray, List.set_cons_zero, List.set_cons_succ, i64_w, i32_w]
    rfl
  refine done_ (by kernel_rfl) ?_
  go_wp2
  (apply end_list [.tmp 2, .tmp 3, .tmp 4]; (case hres => rfl); (case hd => rfl); (case hvs => apply Vals.tmp; apply Vals.tmp; apply Vals.tmp; exact .nil); (case hl => simp); (case hR => exact ⟨rfl, by first | exact HA.out.below | exact (HA.out.drewN _).below⟩))
set_option maxHeartbeats 8000000 in
set_option maxRecDepth 100000 in
theorem rpm_k (A0 : Option Addr) (c0 : Nat) (b0 b1 b2 b3 b4 b5 b6 b7 b8 b9 : Int) (w : World) (hr0 : Kd.C (Kd.int .u8) w A0 10 [b0, b1, b2, b3, b4, b5, b6, b7, b8, b9]) (hc0 : 10 ≤ c0) (hb : Bytes [b0, b1, b2, b3, b4, b5, b6, b7, b8, b9]) (f0 : (b0 == 3) = false) (f1 : (b0 != 3) = true) :
    Calls Try.prog 29 #[.slice A0 10 c0] w fun e w' => e = .returned (.tuple #[.int .u64 0, .int .i64 0, .bool false]) ∧ Below w.heap.size w w' := by
  have HS : Aside0 (Src (Value.int .u8) w [] A0 [b0, b1, b2, b3, b4, b5, b6, b7, b8, b9]) := Aside0.mk (Src.of_C (h1 := fun _ => rfl) hr0)
  obtain ⟨b, off, e0, hx0⟩ := HS.out.cell (Holds.start w) (j := 0) rfl
  cases e0
  obtain ⟨b', off', e9, hx9⟩ := HS.out.cell (Holds.start w) (j := 9) rfl
  cases e9
  rw [Nat.add_zero] at hx0
  have HC := Aside0.mk hc0
  have HA := Aside0.mk (Holds.start w)
  clear hr0 hb hc0
  go_enter Try.func29, Try.ntmps29
  go_wp2
  (apply end_list [.tmp 2, .tmp 3, .tmp 4]; (case hres => rfl); (case hd => rfl); (case hvs => apply Vals.tmp; apply Vals.tmp; apply Vals.tmp; exact .nil); (case hl => simp); (case hR => exact ⟨rfl, by first | exact HA.out.below | exact (HA.out.drewN _).below⟩))
set_option maxHeartbeats 8000000 in
set_option maxRecDepth 100000 in
theorem rpm_l (A0 : Option Addr) (c0 : Nat) (b0 b1 b2 b3 b4 b5 b6 b7 b8 b9 : Int) (w : World) (hr0 : Kd.C (Kd.int .u8) w A0 10 [b0, b1, b2, b3, b4, b5, b6, b7, b8, b9]) (hc0 : 10 ≤ c0) (hb : Bytes [b0, b1, b2, b3, b4, b5, b6, b7, b8, b9]) (f0 : (b0 == 3) = true) (f1 : (b0 != 3) = false) (f2 : decide (b9 < 1) = true) :
    Calls Try.prog 29 #[.slice A0 10 c0] w fun e w' => e = .returned (.tuple #[.int .u64 0, .int .i64 0, .bool false]) ∧ Below w.heap.size w w' := by
  have HS : Aside0 (Src (Value.int .u8) w [] A0 [b0, b1, b2, b3, b4, b5, b6, b7, b8, b9]) := Aside0.mk (Src.of_C (h1 := fun _ => rfl) hr0)
  obtain ⟨b, off, e0, hx0⟩ := HS.out.cell (Holds.start w) (j := 0) rfl
  cases e0
  obtain ⟨b', off', e9, hx9⟩ := HS.out.cell (Holds.start w) (j := 9) rfl
  cases e9
  rw [Nat.add_zero] at hx0
  have HC := Aside0.mk hc0
  have HA := Aside0.mk (Holds.start w)
  clear hr0 hb hc0
  go_enter Try.func29, Try.ntmps29
  go_wp2
  (apply end_list [.tmp 2, .tmp 3, .tmp 4]; (case hres => rfl); (case hd => rfl); (case hvs => apply Vals.tmp; apply Vals.tmp; apply Vals.tmp; exact .nil); (case hl => simp); (case hR => exact ⟨rfl, by first | exact HA.out.below | exact (HA.out.drewN _).below⟩))
set_option maxHeartbeats 8000000 in
set_option maxRecDepth 100000 in
theorem rpm_h (A0 : Option Addr) (c0 : Nat) (b0 b1 b2 b3 b4 b5 b6 b7 b8 b9 : Int) (w : World) (hr0 : Kd.C (Kd.int .u8) w A0 10 [b0, b1, b2, b3, b4, b5, b6, b7, b8, b9]) (hc0 : 10 ≤ c0) (hb : Bytes [b0, b1, b2, b3, b4, b5, b6, b7, b8, b9]) (f0 : (b0 == 3) = true) (f1 : (b0 != 3) = false) (f2 : decide (b9 < 1) = false) (f3 : decide (16 < b9) = true) :
    Calls Try.prog 29 #[.slice A0 10 c0] w fun e w' => e = .returned (.tuple #[.int .u64 0, .int .i64 0, .bool false]) ∧ Below w.heap.size w w' := by
  have HS : Aside0 (Src (Value.int .u8) w [] A0 [b0, b1, b2, b3, b4, b5, b6, b7, b8, b9]) := Aside0.mk (Src.of_C (h1 := fun _ => rfl) hr0)
  obtain ⟨b, off, e0, hx0⟩ := HS.out.cell (Holds.start w) (j := 0) rfl
  cases e0
  obtain ⟨b', off', e9, hx9⟩ := HS.out.cell (Holds.start w) (j := 9) rfl
  cases e9
  rw [Nat.add_zero] at hx0
  have HC := Aside0.mk hc0
  have HA := Aside0.mk (Holds.start w)
  clear hr0 hb hc0
  go_enter Try.func29, Try.ntmps29
  go_wp2
  (apply end_list [.tmp 2, .tmp 3, .tmp 4]; (case hres => rfl); (case hd => rfl); (case hvs => apply Vals.tmp; apply Vals.tmp; apply Vals.tmp; exact .nil); (case hl => simp); (case hR => exact ⟨rfl, by first | exact HA.out.below | exact (HA.out.drewN _).below⟩))
set_option maxHeartbeats 8000000 in
set_option maxRecDepth 100000 in
theorem rpm_n (A0 : Option Addr) (c0 : Nat) (l0 : List Int) (w : World) (hn : (((l0.length : Nat) : Int) != 10) = true) :
    Calls Try.prog 29 #[.slice A0 l0.length c0] w fun e w' => e = .returned (.tuple #[.int .u64 0, .int .i64 0, .bool false]) ∧ Below w.heap.size w w' := by
  have HA := Aside0.mk (Holds.start w)
  go_enter Try.func29, Try.ntmps29
  go_wp2
  (apply end_list [.tmp 2, .tmp 3, .tmp 4]; (case hres => rfl); (case hd => rfl); (case hvs => apply Vals.tmp; apply Vals.tmp; apply Vals.tmp; exact .nil); (case hl => simp); (case hR => exact ⟨rfl, by first | exact HA.out.below | exact (HA.out.drewN _).below⟩))
/-- What bytes are read as_, as_ a mark, by the reference. -/
def parseMr (l0 : List Int) : Int × Int × Bool := if l0.length = 10 ∧ l0.getD 0 0 = 3 ∧ 1 ≤ l0.getD 9 0 ∧ l0.getD 9 0 ≤ 16 then (leVal ((l0.drop 1).take 8), l0.getD 9 0, true) else (0, 0, false)
def pumiceref06_ParseMark.f (l0 : List Int) : Option (Int × Int × Bool) := if byteB l0 = true then some (parseMr l0) else none
theorem ten_of : ∀ (l : List Int), l.length = 10 → ∃ b0 b1 b2 b3 b4 b5 b6 b7 b8 b9, l = [b0, b1, b2, b3, b4, b5, b6, b7, b8, b9]
  | [b0, b1, b2, b3, b4, b5, b6, b7, b8, b9], _ => ⟨b0, b1, b2, b3, b4, b5, b6, b7, b8, b9, rfl⟩
theorem pumiceref06_ParseMark.calls (A0 : Option Addr) (c0 : Nat) (l0 : List Int) (r1 : Int) (r2 : Int) (r3 : Bool) (w : World) (hr0 : Kd.C (Kd.int .u8) w A0 l0.length l0) (hc0 : l0.length ≤ c0) (h : pumiceref06_ParseMark.f l0 = some (r1, r2, r3)) :
    Calls Try.prog 29 #[.slice A0 l0.length c0] w fun e w' => e = .returned (.tuple #[.int .u64 r1, .int .i64 r2, .bool r3]) ∧ Below w.heap.size w w' := by
  unfold pumiceref06_ParseMark.f at h
  by_cases hb : byteB l0 = true
  rotate_left
  · rw [if_neg hb] at h
    cases h
  rw [if_pos hb] at h
  replace hb := byteB_spec hb
  replace h := Option.some.inj h
  unfold parseMr at h
  have hB : ∀ (a b : Int), a = b → (a == b) = true ∧ (a != b) = false := fun a b h => by subst h; simp
  have hN : ∀ (a b : Int), ¬ a = b → (a == b) = false ∧ (a != b) = true := fun a b h => by simp [h]
  by_cases h0 : l0.length = 10
  rotate_left
  · rw [if_neg (fun hh => h0 hh.1)] at h
    simp only [Prod.mk.injEq] at h
    obtain ⟨rfl, rfl, rfl⟩ := h
    exact rpm_n A0 c0 l0 w (hN _ _ (by omega)).2
  obtain ⟨b0, b1, b2, b3, b4, b5, b6, b7, b8, b9, rfl⟩ := ten_of l0 h0
  simp only [List.getD_cons_zero, List.getD_cons_succ, List.drop_succ_cons, List.drop_zero, List.take_succ_cons, List.take_zero] at h
  by_cases h1 : b0 = 3
  rotate_left
  · rw [if_neg (fun hh => h1 hh.2.1)] at h
    simp only [Prod.mk.injEq] at h
    obtain ⟨rfl, rfl, rfl⟩ := h
    exact rpm_k A0 c0 b0 b1 b2 b3 b4 b5 b6 b7 b8 b9 w hr0 hc0 hb (hN _ _ h1).1 (hN _ _ h1).2
  by_cases h3 : b9 < 1
  · rw [if_neg (fun hh => by omega)] at h
    simp only [Prod.mk.injEq] at h
    obtain ⟨rfl, rfl, rfl⟩ := h
    exact rpm_l A0 c0 b0 b1 b2 b3 b4 b5 b6 b7 b8 b9 w hr0 hc0 hb (hB _ _ h1).1 (hB _ _ h1).2 (decide_eq_true h3)
  by_cases h4 : 16 < b9
  · rw [if_neg (fun hh => by omega)] at h
    simp only [Prod.mk.injEq] at h
    obtain ⟨rfl, rfl, rfl⟩ := h
    exact rpm_h A0 c0 b0 b1 b2 b3 b4 b5 b6 b7 b8 b9 w hr0 hc0 hb (hB _ _ h1).1 (hB _ _ h1).2 (decide_eq_false h3) (decide_eq_true h4)
  · rw [if_pos ⟨h0, h1, by omega, by omega⟩] at h
    simp only [Prod.mk.injEq] at h
    obtain ⟨rfl, rfl, rfl⟩ := h
    exact rpm_ok A0 c0 b0 b1 b2 b3 b4 b5 b6 b7 b8 b9 w hr0 hc0 hb (hB _ _ h1).1 (hB _ _ h1).2 (decide_eq_false h3) (decide_eq_false h4)
end Go.Proofs.Ytakchpeohmkpkaa.Q
