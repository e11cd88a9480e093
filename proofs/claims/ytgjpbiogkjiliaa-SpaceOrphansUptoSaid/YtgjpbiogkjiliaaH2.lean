/- space.Change: what the nodes of a list cost as a map, and what they cost behind a group. -/
import Derived.Test.YtgjpbiogkjiliaaQ1
import Derived.Test.YtgjpbiogkjiliaaH2a
import Derived.Maps.RangeWalk
import Derived.WalkLawsBesides
namespace Go.Proofs.Ytgjpbiogkjiliaa.Q
open Go.RowKit Go.Maps Go.WideMaps Go.Proofs.YtgjpbiogkjiliaaW.PrintWords Go.Proofs.YtgjpbiogkjiliaaW.PrintLast Go.Proofs.YtgjpbiogkjiliaaW.PrintMore
set_option linter.unusedVariables false
set_option linter.unusedSimpArgs false

theorem node_cost (x c : ByteArray) (hk : x.size ≤ big) (hv : c.size ≤ big) : space_Node.f x c = some (costOf x.data.toList c.data.toList : Int) := by
  unfold space_Node.f costOf
  unfold big at hk hv
  refine congrArg some ?_
  simp only [Array.length_toList, show x.data.size = x.size from rfl, show c.data.size = c.size from rfl]
  unfold wrap64
  omega
theorem add_cost (n c : Nat) (h1 : 1 ≤ c) (h2 : (c : Int) ≤ 4611686018427387904) : space_add.f (sat n) c = some (sat (n + c)) := by
  have h3 := sat_nonneg n
  have h4 := sat_le n
  rw [← sat_add n c h1 h2]
  unfold space_add.f
  rw [show wrap64 (4611686018427387904 - (c : Int)) = 4611686018427387904 - (c : Int) from by unfold wrap64; omega]
  by_cases h : sat n > 4611686018427387904 - (c : Int)
  · rw [if_pos h, if_pos h]
  · rw [if_neg h, if_neg h, show wrap64 (sat n + (c : Int)) = sat n + (c : Int) from by unfold wrap64; omega]

theorem grown_drewN {w w' : World} {r : Option Nat} (h : w.grownBy w' r) (n : Nat) : w.grownBy (w'.drewN n) r := ⟨h.os, h.tape, h.output, h.size, h.block⟩

theorem law9 : Keyed Try.prog 9 := string_keyed Try.underlying9
abbrev OwnsM (w : World) (b n : Nat) (D : DataW Unit) : Prop := w.ownsMap Try.prog 9 (plainElem Try.prog 9) b n D

theorem big_max : big ≤ maxLen := by unfold big maxLen; omega

set_option maxHeartbeats 400000 in
theorem put_calls (k v : ByteArray) (g : Bool) (cb mb n : Nat) (D : DataW Unit) (w : World) (hk : k.size ≤ maxLen) (hv : v.size ≤ maxLen) (hn : n < maxLen) (hc : w.cell? ⟨cb, 0, none⟩ = some (.map (some mb))) (hown : OwnsM w mb n D) :
    Calls Try.prog 39 #[.agg #[.string k, .string v, .bool g], .pointer (some ⟨cb, 0, none⟩)] w fun e w' => e = .returned (.tuple #[]) ∧ OwnsM w' mb (n + 1) (step D ⟨k, v, g⟩) ∧ w.grownBy w' (some mb) := by
  have hu := Try.underlying37
  have hcb : cb < w.heap.size := World.block_lt_of_cell? w _ hc
  have hc2 : (w.alloc (.cells #[.string k, .string v, .bool g] 37)).cell? ⟨cb, 0, none⟩ = some (.map (some mb)) := by
    rw [World.cell?_alloc_past _ _ _ hcb]; exact hc
  cases g with
  | true =>
    go_enter Try.func39, Try.ntmps39
    go_wp2_with (first | (at_delete; refine wpList_delete_own _ rfl _ _ 49 9 rfl 9 law9 Try.underlying49 _ mb n _ rfl (hown.alloc _) _ _ rfl (keyOf_string_mk Try.underlying9 hk) ?_; intro w1 hown1 hturn1) | fail)
    go_end0
    exact ⟨rfl, World.ownsMap.mono hown1 (Nat.le_succ _), (World.grownBy_alloc w _ _).trans hturn1.grown⟩
  | false =>
    go_enter Try.func39, Try.ntmps39
    go_wp2_with (first | (at_mapUpdate; refine wpList_mapUpdate_own _ rfl _ _ _ 49 rfl 9 9 law9 Try.underlying49 _ mb n _ rfl (hown.alloc _) hn _ _ _ rfl rfl (keyOf_string_mk Try.underlying9 hk) _ [] (plainElem_string Try.underlying9 hv) ?_; intro w1 hown1 hgrow1) | fail)
    go_end0
    exact ⟨rfl, hown1, (World.grownBy_alloc w _ _).trans hgrow1⟩

theorem keyOf_string_inv {key : Value} {kl : Lit} (h : keyOf Try.prog 9 key = some kl) : ∃ s : ByteArray, key = .string s ∧ kl = .string s.data.toList := by
  cases key <;> simp [keyOf, Try.underlying9, mapKey] at h
  exact ⟨_, rfl, h.2.symm⟩

set_option maxHeartbeats 400000 in
theorem sum_calls (cb mb n : Nat) (es : List Ent) (w : World) (hc : w.cell? ⟨cb, 0, none⟩ = some (.map (some mb))) (hown : OwnsM w mb n (.map es)) (hgood : ∀ p ∈ es, Good p) :
    Calls Try.prog 40 #[.pointer (some ⟨cb, 0, none⟩)] w fun e w' => e = .returned (.int .i64 (sat (costs es))) ∧ OwnsM w' mb n (.map es) ∧ w.grownBy w' none := by
  have hcb : cb < w.heap.size := World.block_lt_of_cell? w _ hc
  obtain ⟨es', e1, hap, hkeys⟩ := World.ownsMap.entries hown law9
  cases e1
  go_enter Try.func40, Try.ntmps40
  go_wp2_with (first
    | (at_range; refine wpList_range_own _ rfl _ 49 rfl 9 9 law9 Try.underlying49 _ mb n _ rfl hown ?_; intro w0 hrg0 hg0 hs0)
    | fail)
  go_frame
  go_loopw [2] (fun t wr => ∃ (left : Lit → Bool) (cnt : Nat), t = .int .i64 (sat (costs (es.filter fun p => !left p.1))) ∧ wr.ranges Try.prog 9 (plainElem Try.prog 9) mb w.heap.size n (.map es) left cnt ∧ w.grownBy wr none)
    (fun _ wr => wr.rangeLeft mb w.heap.size)
  case atStart => exact ⟨_, _, by rw [costs_start hkeys]; rfl, hrg0, hg0⟩
  case round =>
    obtain ⟨left, cnt, rfl, hrg, hgw⟩ := hrel
    go_wp2_with (first
      | (at_next; refine wpList_next_ranges _ rfl _ rfl 9 law9 _ Value.string Value.string (fun key kl hkey => by obtain ⟨x, rfl, _⟩ := keyOf_string_inv hkey; exact ⟨x, rfl⟩) (fun v y hv => by obtain ⟨c, rfl, _⟩ := plainElem_string_inv Try.underlying9 hv; exact ⟨c, rfl⟩) mb w.heap.size n _ _ _ rfl hrg ?_ ?_)
      | fail)
    · intro _ hl0
      go_wp2
      go_ret
      refine ⟨?_, hrg.owns, hgw⟩
      show Ending.returned (.int .i64 (sat _)) = _
      rw [costs_end hl0]
    · intro x c kl y1 y2 w1 cnt1 hkey hlk hv hat hrg1 hlt hg1 hs1 hen
      obtain ⟨_, e2, rfl⟩ := keyOf_string_inv hkey
      cases e2
      obtain ⟨_, e3, e5, hcs⟩ := plainElem_string_inv Try.underlying9 hv
      cases e3
      obtain ⟨rfl, rfl⟩ := Prod.mk.inj e5
      clear e5 hv
      have hmem := mem_of_atKey hat
      obtain ⟨k', v', e4, hkb, hvb⟩ := hgood _ hmem
      cases e4
      have hstep := costs_step hlk hap hkeys hmem
      have hN := node_cost x c (by simpa using hkb) (by simpa using hvb)
      have hA : space_add.f (sat (costs (es.filter fun p => !left p.1))) (costOf x.data.toList c.data.toList : Int) = some (sat (costs (es.filter fun p => !(left p.1 && !p.1.sameKey (.string x.data.toList))))) := by
        rw [hstep, show cost (Lit.string x.data.toList, DataW.lit (Lit.string c.data.toList)) = costOf x.data.toList c.data.toList from rfl]
        exact add_cost _ _ (costOf_pos _ _) (costOf_le hkb hvb)
      have HN := Aside0.mk hN
      have HA := Aside0.mk hA
      clear hN hA hstep
      generalize sat (costs (es.filter fun p => !left p.1)) = s0 at HA ⊢
      go_wp2_with (first
        | (go_at_call 27; refine (space_Node.calls _ _ _ _ HN.out).mono ?_; rintro e w' ⟨rfl, ⟨nd, rfl⟩⟩)
        | (go_at_call 41; refine (space_add.calls _ _ _ _ HA.out).mono ?_; rintro e w' ⟨rfl, ⟨nd2, rfl⟩⟩)
        | fail)
      go_roundw
      case rel => exact ⟨fun z => left z && !z.sameKey (.string x.data.toList), cnt1, by simp, hrg1, hgw.andThen (grown_drewN hg1 _) (fun j hj => by cases hj; exact Or.inl (Nat.le_refl _))⟩
      case measure =>
        have e1 : (w1.drewN (nd + nd2)).rangeLeft mb w.heap.size = cnt1 := hrg1.left_eq
        rw [e1, hrg.left_eq]
        exact hlt

theorem below_big {n : Nat} (h : n ≤ big) : (n : Int) ≤ 140737488355328 := by unfold big at h; omega
theorem rd_get {l : List S37} {x : Int} (h0 : 0 ≤ x) (h1 : x < l.length) : ∃ h : x.toNat < l.length, rd_T37 l x = l[x.toNat] := by
  have h : x.toNat < l.length := by omega
  refine ⟨h, ?_⟩
  unfold rd_T37
  rw [List.getD_eq_getElem?_getD, List.getElem?_eq_getElem h, Option.getD_some]
theorem rd_small {l : List S37} {x : Int} (h0 : 0 ≤ x) (h1 : x < l.length) (hs : ∀ y ∈ l, Small y) : (rd_T37 l x).f0.size ≤ maxLen ∧ (rd_T37 l x).f1.size ≤ maxLen := by
  obtain ⟨h, e⟩ := rd_get h0 h1
  rw [e]
  have := hs _ (List.getElem_mem h)
  exact ⟨Nat.le_trans this.1 big_max, Nat.le_trans this.2 big_max⟩
theorem done_next {D : DataW Unit} {l : List S37} {x : Int} (h0 : 0 ≤ x) (h1 : x < l.length) : step (doneD D (l.take x.toNat)) ⟨(rd_T37 l x).f0, (rd_T37 l x).f1, (rd_T37 l x).f2⟩ = doneD D (l.take (x + 1).toNat) := by
  obtain ⟨h, e⟩ := rd_get h0 h1
  rw [show (x + 1).toNat = x.toNat + 1 from by omega, done_take D l _ h, e]

/-- What holds at the head of either loop. -/
def LoopInv (w wr : World) (D0 : DataW Unit) (n0 : Nat) (l : List S37) (x : Int) : Prop :=
  OwnsM wr w.heap.size (n0 + x.toNat) (doneD D0 (l.take x.toNat)) ∧ wr.cell? ⟨w.heap.size + 1, 0, none⟩ = some (.map (some w.heap.size)) ∧ Below w.heap.size w wr ∧ w.heap.size + 1 < wr.heap.size

theorem LoopInv.next {w wr w1 : World} {D0 : DataW Unit} {n0 : Nat} {l : List S37} {x : Int} {o : Obj} (h0 : 0 ≤ x) (h1 : x < l.length) (h : LoopInv w wr D0 n0 l x)
    (hown : OwnsM w1 w.heap.size (n0 + x.toNat + 1) (step (doneD D0 (l.take x.toNat)) ⟨(rd_T37 l x).f0, (rd_T37 l x).f1, (rd_T37 l x).f2⟩)) (hg : (wr.alloc o).grownBy w1 (some w.heap.size)) : LoopInv w w1 D0 n0 l (x + 1) := by
  obtain ⟨_, hc, hb, hz⟩ := h
  have hsz := hg.size
  simp only [World.size_alloc] at hsz
  refine ⟨?_, ?_, ?_, by omega⟩
  · rw [done_next h0 h1] at hown
    exact World.ownsMap.mono hown (by omega)
  · have e := World.cell?_of_block (w := wr.alloc o) (a := ⟨w.heap.size + 1, 0, none⟩) (hg.block (w.heap.size + 1) (by simp; omega) (by simp))
    rw [e, World.cell?_alloc_past _ _ _ hz]
    exact hc
  · exact (hb.alloc hb.size o).grown hg (by have := hb.size; simp; omega) (fun k hk => by cases hk; exact Nat.le_refl _)

theorem map_done {D : DataW Unit} (h : IsMap D) : ∀ l : List S37, IsMap (doneD D l) := by
  intro l
  induction l generalizing D with
  | nil => exact h
  | cons x r ih =>
    refine ih ?_
    unfold step
    split
    · exact h.del _
    · exact h.put _ _
theorem ents_map {D : DataW Unit} (h : IsMap D) : DataW.map (ents D) = D := by obtain ⟨es, rfl⟩ := h; rfl
theorem sum_callsD (cb mb n : Nat) (D : DataW Unit) (w : World) (hc : w.cell? ⟨cb, 0, none⟩ = some (.map (some mb))) (hown : OwnsM w mb n D) (hD : IsMap D) (hgood : ∀ p ∈ ents D, Good p) :
    Calls Try.prog 40 #[.pointer (some ⟨cb, 0, none⟩)] w fun e w' => e = .returned (.int .i64 (sat (costs (ents D)))) ∧ OwnsM w' mb n D ∧ w.grownBy w' none := by
  have h := sum_calls cb mb n (ents D) w hc (by rw [ents_map hD]; exact hown) hgood
  rw [ents_map hD] at h
  exact h
theorem LoopInv.sum {w wr w1 : World} {D0 : DataW Unit} {n0 : Nat} {l : List S37} (l' : List S37) (h : LoopInv w wr D0 n0 l (l.length : Int)) (hown : OwnsM w1 w.heap.size (n0 + l.length) (doneD D0 l)) (hg : wr.grownBy w1 none) : LoopInv w w1 (doneD D0 l) (n0 + l.length) l' 0 := by
  obtain ⟨_, hc, hb, hz⟩ := h
  have hsz := hg.size
  refine ⟨by simpa [doneD] using hown, ?_, hb.grown hg hb.size (fun k hk => by cases hk), by omega⟩
  have e := World.cell?_of_block (w := wr) (a := ⟨w.heap.size + 1, 0, none⟩) (hg.block (w.heap.size + 1) hz (by simp))
  rw [e]
  exact hc
theorem LoopInv.whole {w wr : World} {D0 : DataW Unit} {n0 : Nat} {l : List S37} (h : LoopInv w wr D0 n0 l (l.length : Int)) : OwnsM wr w.heap.size (n0 + l.length) (doneD D0 l) := by
  have := h.1
  simpa using this

set_option maxHeartbeats 1600000 in
set_option maxRecDepth 100000 in
theorem space_Change.calls (A0 : Option Addr) (c0 : Nat) (l0 : List S37) (A1 : Option Addr) (c1 : Nat) (l1 : List S37) (r1 r2 : Int) (w : World) (hr0 : Kd.C k37 w A0 l0.length l0) (hc0 : l0.length ≤ c0) (hr1 : Kd.C k37 w A1 l1.length l1) (hc1 : l1.length ≤ c1) (h : space_Change.f l0 l1 = some (r1, r2)) :
    Calls Try.prog 23 #[.slice A0 l0.length c0, .slice A1 l1.length c1] w fun e w' => e = .returned (.tuple #[.int .i64 r1, .int .i64 r2]) ∧ Below w.heap.size w w' := by
  have hmm := @run_makeMap Try.prog
  have hmf : ∀ (fn : Fn) (first cap : Array Value) (w : World), (Instr.makeFunc fn first cap).run Try.prog w = .ok (.func fn first cap) w := fun _ _ _ _ => rfl
  unfold space_Change.f at h
  split at h
  case isFalse => cases h
  rename_i hcond
  obtain ⟨hs0, hs1, hl0, hl1⟩ := hcond
  have h2 := Prod.mk.inj (Option.some.inj h)
  clear h
  obtain ⟨rfl, rfl⟩ := h2
  have hu37 := Try.underlying37
  have HR0 := Aside0.mk hr0
  have HR1 := Aside0.mk hr1
  have HS0 := Aside0.mk hs0
  have HS1 := Aside0.mk hs1
  have hl0' := below_big hl0
  have hl1' := below_big hl1
  have HL0 := Aside0.mk hl0
  have HL1 := Aside0.mk hl1
  clear hr0 hr1 hs0 hs1 hl0 hl1 hc0 hc1
  have hmade := World.ownsMap_made (H := Unit) w Try.prog 9 (plainElem Try.prog 9)
  have HM := Aside0.mk hmade
  clear hmade
  go_enter Try.func23, Try.ntmps23
  go_wp2_with fail
  go_loopw [18] (fun i wr => ∃ x : Int, i = .int .i64 x ∧ 0 ≤ x ∧ x ≤ l0.length ∧ Aside0 (LoopInv w wr (.map []) 0 l0 x)) (fun i _ => l0.length - (intOf i).toNat)
  case atStart => exact ⟨0, rfl, by omega, by omega, ⟨⟨HM.out.alloc _, World.cell?_alloc_at _ _ _ _ (by simp), ((Below.refl _ _).alloc (Nat.le_refl _) _).alloc (by simp) _, by simp⟩⟩⟩
  case round =>
    obtain ⟨x, rfl, hx0, hx1, HI⟩ := hrel
    by_cases hlt : x < l0.length
    · obtain ⟨ad, e, g0, g1, g2⟩ := at_T37 HR0.out x hx0 hlt
      cases e
      have hb := HI.out.2.2.1
      replace g0 := (hb.cell (World.block_lt_of_cell? w _ g0)).trans g0
      replace g1 := (hb.cell (World.block_lt_of_cell? w _ g1)).trans g1
      replace g2 := (hb.cell (World.block_lt_of_cell? w _ g2)).trans g2
      clear hb
      have hsm := rd_small hx0 hlt HS0.out
      have hmx : 0 + x.toNat < maxLen := by unfold maxLen; omega
      have HX := Aside0.mk hsm
      have HMX := Aside0.mk hmx
      clear hsm hmx
      go_wp2_with fail
      refine (put_calls _ _ _ (w.heap.size + 1) w.heap.size (0 + x.toNat) _ _ HX.out.1 HX.out.2 HMX.out (by rw [World.cell?_alloc_past _ _ _ HI.out.2.2.2]; exact HI.out.2.1) (HI.out.1.alloc _)).mono ?_
      rintro e w1 ⟨rfl, hown1, hg1⟩
      have HI' := Aside0.mk (LoopInv.next hx0 hlt HI.out hown1 hg1)
      clear hown1 hg1 g0 g1 g2
      go_wp2
      go_roundw
      case rel => exact ⟨x + 1, rfl, by omega, by omega, HI'⟩
      case measure => simp [intOf]; omega
    · obtain rfl : x = (l0.length : Int) := by omega
      have HA := Aside0.mk HI.out
      have HG := Aside0.mk (good_done (D := .map []) (l := l0) (by simp [ents]) HS0.out)
      have HIM := Aside0.mk (map_done (isMap_empty (H := Unit)) l0)
      clear HI
      go_wp2_with fail
      refine (sum_callsD (w.heap.size + 1) w.heap.size (0 + l0.length) (doneD (.map []) l0) _ HA.out.2.1 HA.out.whole HIM.out HG.out).mono ?_
      rintro e w1 ⟨rfl, hown1, hg1⟩
      have HI2 := Aside0.mk (HA.out.sum l1 hown1 hg1)
      clear hown1 hg1
      go_wp2_with fail
      go_loopw [31] (fun i wr => ∃ x : Int, i = .int .i64 x ∧ 0 ≤ x ∧ x ≤ l1.length ∧ Aside0 (LoopInv w wr (doneD (.map []) l0) (0 + l0.length) l1 x)) (fun i _ => l1.length - (intOf i).toNat)
      case atStart => exact ⟨0, rfl, by omega, by omega, HI2⟩
      case round =>
        clear HI2 HA
        obtain ⟨x, rfl, hx0, hx1, HI⟩ := hrel
        by_cases hlt : x < l1.length
        · obtain ⟨ad, e, g0, g1, g2⟩ := at_T37 HR1.out x hx0 hlt
          cases e
          have hb := HI.out.2.2.1
          replace g0 := (hb.cell (World.block_lt_of_cell? w _ g0)).trans g0
          replace g1 := (hb.cell (World.block_lt_of_cell? w _ g1)).trans g1
          replace g2 := (hb.cell (World.block_lt_of_cell? w _ g2)).trans g2
          clear hb
          have hsm := rd_small hx0 hlt HS1.out
          have hmx : 0 + l0.length + x.toNat < maxLen := by unfold maxLen; omega
          have HX := Aside0.mk hsm
          have HMX := Aside0.mk hmx
          clear hsm hmx
          go_wp2_with fail
          refine (put_calls _ _ _ (w.heap.size + 1) w.heap.size (0 + l0.length + x.toNat) _ _ HX.out.1 HX.out.2 HMX.out (by rw [World.cell?_alloc_past _ _ _ HI.out.2.2.2]; exact HI.out.2.1) (HI.out.1.alloc _)).mono ?_
          rintro e w1 ⟨rfl, hown1, hg1⟩
          have HI' := Aside0.mk (LoopInv.next hx0 hlt HI.out hown1 hg1)
          clear hown1 hg1 g0 g1 g2
          go_wp2
          go_roundw
          case rel => exact ⟨x + 1, rfl, by omega, by omega, HI'⟩
          case measure => simp [intOf]; omega
        · obtain rfl : x = (l1.length : Int) := by omega
          have HB := Aside0.mk HI.out
          have HG1 := Aside0.mk (good_done (D := doneD (.map []) l0) (l := l1) HG.out HS1.out)
          have HIM1 := Aside0.mk (map_done HIM.out l1)
          clear HI
          go_wp2_with fail
          refine (sum_callsD (w.heap.size + 1) w.heap.size (0 + l0.length + l1.length) (doneD (doneD (.map []) l0) l1) _ HB.out.2.1 HB.out.whole HIM1.out HG1.out).mono ?_
          rintro e w1 ⟨rfl, hown1, hg1⟩
          have HI3 := Aside0.mk (HB.out.sum l1 hown1 hg1)
          clear hown1 hg1
          go_wp2
          go_ret2
          exact ⟨rfl, HI3.out.2.2.1⟩

end Go.Proofs.Ytgjpbiogkjiliaa.Q
