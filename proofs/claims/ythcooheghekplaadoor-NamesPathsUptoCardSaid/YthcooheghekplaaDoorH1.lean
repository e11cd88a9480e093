/- names.Right: strings.ContainsAny with "/\x00" of whatever text. -/
import Derived.Test.YthcooheghekplaaDoorH1a
import Derived.Lib.IndexAny
import Derived.Lib.AsciiSet
import Derived.Lib.OthersKept
import Derived.Lib.Bytealg
import Derived.Lib.IndexBytes
import Derived.Laws.RangeAny
import Derived.Laws.Runes
import Derived.Laws.Strings3
import Derived.Laws.ResultCell
import Derived.Deep.WholeRow
import Derived.WalkMore
import Derived.Deep.RegionLaw
namespace Go.Proofs.YthcooheghekplaaDoor.Q
open Go.RowKit Go.Proofs.YthcooheghekplaaDoorW.PrintWords Go.Proofs.YthcooheghekplaaDoorW.PrintLast Go.Proofs.YthcooheghekplaaDoorW.PrintMore
set_option linter.unusedVariables false
set_option linter.unusedSimpArgs false


theorem rune_any (r : Int) (w : World) (h0 : 128 ≤ r) (h1 : r ≤ 2147483647) : Calls Tryd.prog 53 #[.string two2, .int .i32 r] w fun e w' => e = .returned (.int .i64 (-1)) ∧ Below w.heap.size w w' := by
  by_cases h2 : r = 65533
  · subst h2; exact rune_error w
  cases hv : Utf8.valid r with
  | false => exact (rune_bad two2 r w h0 h1 h2 hv).mono fun e w' h => ⟨h.1, h.2 ▸ Below.refl _ _⟩
  | true =>
    obtain ⟨e1, e2, _⟩ := encode_last r hv h0
    by_cases h4 : (Utf8.encode r).size = 2
    · exact rune_high2 r w h0 h1 h2 hv h4
    · exact (rune_high3 r ((Utf8.encode r).size - 3) w h0 h1 h2 hv (by omega) (by omega)).mono fun e w' h => ⟨h.1, h.2 ▸ Below.refl _ _⟩

set_option maxHeartbeats 1000000 in
theorem useSet_calls (n : Int) (w : World) : Calls Tryd.prog 54 #[.int .i64 n] w fun e w' => e = .returned (.bool (decide (8 < n))) ∧ w' = w := by
  go_enter Tryd.func54, Tryd.ntmps54
  go_wp2
  go_ret
  exact ⟨rfl, rfl⟩

/-- A string's iterator stands at i. -/
structure IterAt (w wx : World) (s : ByteArray) (i : Nat) : Prop where
  at_ : wx.heap[w.heap.size]? = some (.stringIter s i)
  below : Below w.heap.size w wx
theorem IterAt.set {w wx : World} {s : ByteArray} {i j : Nat} (h : IterAt w wx s i) : IterAt w (wx.iterAt w.heap.size s j) s j := by
  refine ⟨Lib.iterAt_heap wx w.heap.size s i j h.at_, h.below.trans ⟨rfl, rfl, rfl, by simp [World.iterAt], fun k hk => ?_⟩⟩
  simp only [World.iterAt]
  rw [Array.getElem?_setIfInBounds_ne (by omega)]
theorem IterAt.past {w wx w1 : World} {s : ByteArray} {i : Nat} (h : IterAt w wx s i) (hb : Below wx.heap.size wx w1) : IterAt w w1 s i :=
  ⟨(hb.block _ (Array.getElem?_eq_some_iff.1 h.at_).1).trans h.at_, h.below.trans (hb.mono h.below.size)⟩

theorem idx_low (x : UInt8) : (0 ≤ Lib.indexByte two2.data.toList x) ↔ (x = 47 ∨ x = 0) := by
  unfold two2
  simp only [Lib.indexByte]
  by_cases h1 : x = 47
  · subst h1; simp
  · by_cases h2 : x = 0
    · subst h2; decide
    · have e1 : ((47 : UInt8) == x) = false := beq_eq_false_iff_ne.2 (fun e => h1 e.symm)
      have e2 : ((0 : UInt8) == x) = false := beq_eq_false_iff_ne.2 (fun e => h2 e.symm)
      simp [e1, e2, h1, h2]

set_option maxHeartbeats 8000000 in
set_option maxRecDepth 1000000 in
theorem any_short (s : ByteArray) (w : World) (h8 : s.size ≤ 8) : Calls Tryd.prog 43 #[.string s, .string two2] w fun e w' => (∃ i : Int, e = .returned (.int .i64 i) ∧ decide (0 ≤ i) = hasBad s.data.toList) ∧ Below w.heap.size w w' := by
  have h8z : decide ((8 : Int) < (s.size : Int)) = false := decide_eq_false (by omega)
  unfold two2
  have hemp : (⟨#[47, 0]⟩ : ByteArray).toList.isEmpty = false := by rw [Lib.toList_data]; rfl
  have hn1 : (((⟨#[47, 0]⟩ : ByteArray).size : Int) == 1) = false := by decide
  go_enter Tryd.func43, Tryd.ntmps43
  go_wp2_with (go_at_call 54; refine (useSet_calls _ _).mono ?_; rintro e w' ⟨rfl, hw⟩; rw [hw, h8z])
  go_loopg [9, 10] s.size (fun g _ _ wx => ∃ i : Nat, i + g = s.size ∧ IterAt w wx s i ∧ NoBad s i)
  case atStart => exact ⟨0, by omega, ⟨World.iter_heap w s 0, (Below.refl _ _).alloc (Nat.le_refl _) _⟩, NoBad.zero _⟩
  case round =>
    obtain ⟨i, hig, hit, hno⟩ := hrel
    have HN : Aside (NoBad s i) := hno
    have HI : Aside (IterAt w wr s i) := hit
    clear hno hit
    cases gk with
    | zero =>
      obtain rfl : i = s.size := by omega
      have hnx := fun ty => Lib.run_next_end_at (P := Tryd.prog) wr w.heap.size s s.size ty HI.out.at_ (by omega)
      go_wp2
      go_ret
      exact ⟨⟨_, rfl, by rw [HN.out.all]; rfl⟩, HI.out.below⟩
    | succ g =>
      have hi : i < s.size := by omega
      obtain ⟨x, hx⟩ : ∃ x : UInt8, s[i]'hi = x := ⟨_, rfl⟩
      by_cases hx128 : x.toNat < 128
      · have hnx := fun ty => Lib.run_next_ascii_at (P := Tryd.prog) wr w.heap.size s i ty HI.out.at_ hi (by rw [hx]; exact hx128)
        rw [hx] at hnx
        have HI2 : Aside (IterAt w (wr.iterAt w.heap.size s (i + 1)) s (i + 1)) := HI.out.set
        have hback : ((x.toNat : Int)).toNat.toUInt8 = x := by simp
        have hlow := idx_low x
        unfold two2 at hlow
        by_cases hin : x = 47 ∨ x = 0
        · have hge : (0 : Int) ≤ Lib.indexByte (⟨#[47, 0]⟩ : ByteArray).data.toList x := hlow.2 hin
          have hbad := hasBad_at hi (by rw [hx]; exact hin)
          clear hlow
          go_wp2_with (go_at_call 53; refine (rune_low _ _ _ (by omega) (by omega)).mono ?_; rintro e w' ⟨rfl, hw⟩; rw [hw, hback])
          go_ret
          exact ⟨⟨_, rfl, by rw [hbad]; exact decide_eq_true (by omega)⟩, HI2.out.below⟩
        · have hlt : ¬ ((0 : Int) ≤ Lib.indexByte (⟨#[47, 0]⟩ : ByteArray).data.toList x) := fun h => hin (hlow.1 h)
          clear hlow
          go_wp2_with (go_at_call 53; refine (rune_low _ _ _ (by omega) (by omega)).mono ?_; rintro e w' ⟨rfl, hw⟩; rw [hw, hback])
          go_roundg g
          case measure => omega
          case rel => exact ⟨i + 1, by omega, HI2.out, HN.out.succ hi (by rw [hx]; exact fun e => hin (.inl e)) (by rw [hx]; exact fun e => hin (.inr e))⟩
      · have hnx := fun ty => Lib.run_next_any_at (P := Tryd.prog) wr w.heap.size s i ty HI.out.at_ hi
        obtain ⟨d1, d2⟩ := decode_high s i hi (by rw [hx]; omega)
        have d3 := decode_le s i
        have d4 := decode_end s i hi
        have HS : Aside (∀ j (hj : j < s.size), i ≤ j → j < i + (Utf8.decode s i).2 → 128 ≤ (s[j]'hj).toNat) := fun j hj h1 h2 => decode_skip s i hi (by rw [hx]; omega) j hj h1 h2
        have HI2 : Aside (IterAt w (wr.iterAt w.heap.size s (i + (Utf8.decode s i).2)) s (i + (Utf8.decode s i).2)) := HI.out.set
        obtain ⟨r, hr⟩ : ∃ r, (Utf8.decode s i).1 = r := ⟨_, rfl⟩
        obtain ⟨d, hd⟩ : ∃ d, (Utf8.decode s i).2 = d := ⟨_, rfl⟩
        rw [hr, hd] at hnx
        rw [hr] at d1 d3
        rw [hd] at d2 d4 HS HI2
        have hra := rune_any (r : Int)
        unfold two2 at hra
        have hra2 := fun w => hra w (by omega) (by omega)
        clear hra
        go_wp2_with (go_at_call 53; (with_reducible refine (hra2 _).mono ?_); rintro e w' ⟨rfl, hw⟩; have HI3 := Aside0.mk (HI2.out.past hw))
        go_roundg (s.size - (i + d))
        case measure => omega
        case rel => exact ⟨i + d, by omega, HI3.out, HN.out.high HS.out⟩

theorem zero_set : (∀ w, (zeroValue 75).run Tryd.prog w = .ok (.agg (Array.replicate 256 (.bool false))) w) ∧ (Tryd.prog.info? 75).map (·.size) = some 256 :=
  have h : (Tryd.prog.info? 75).map (fun i => (i.zero, i.size)) = some (some (.agg (Array.replicate 256 (.bool false))), 256) := by kernel_rfl
  Go.zero_of_info h

set_option maxHeartbeats 4000000 in
set_option maxRecDepth 1000000 in
theorem makeSet_calls (chars : ByteArray) (w : World) (hs : chars.size < 4294967281) (hascii : ∀ (j : Nat) b, chars.data.toList[j]? = some b → b.toNat < 128) :
    Calls Tryd.prog 55 #[.string chars] w fun e w' => e = .returned (.tuple #[.agg (Lib.setCells chars.data.toList), .bool true]) ∧ w' = w.alloc (.cells (Lib.setCells chars.data.toList) 75) := by
  obtain ⟨hv116, hi116⟩ := zero_set
  have HA : Aside (∀ (j : Nat) b, chars.data.toList[j]? = some b → b.toNat < 128) := hascii
  clear hascii
  have tS := Tryd.underlying75
  go_enter Tryd.func55, Tryd.ntmps55
  go_wp2
  rw [← Lib.setCells_nil]
  go_loopg [4] chars.size (fun g s4 wx => ∃ i : Nat, i + g = chars.size ∧ s4 = .int .i64 i ∧ wx = w.alloc (.cells (Lib.setCells (chars.data.toList.take i)) 75))
  case atStart => exact ⟨0, by omega, rfl, rfl⟩
  case round =>
    obtain ⟨i, hig, rfl, rfl⟩ := hrel
    cases gk with
    | zero =>
      obtain rfl : i = chars.size := by omega
      have hiz : ¬ ((chars.size : Int) < (chars.size : Int)) := by omega
      rw [show chars.data.toList.take chars.size = chars.data.toList from List.take_of_length_le (by rw [← Lib.size_eq]; exact Nat.le_refl _)]
      have hld := run_loadVar_new (P := Tryd.prog) w 75 (Lib.setCells chars.data.toList) 256 4 tS (by rw [Lib.setCells_size]; exact hi116)
      have hsz := Lib.setCells_size chars.data.toList
      have hlc := run_loadCellsFrom_new (P := Tryd.prog) w 75 (Lib.setCells chars.data.toList) 256 hsz
      have hsc := run_storeCells_new (P := Tryd.prog) w 75 (Lib.setCells chars.data.toList) (Lib.setCells chars.data.toList) (by rw [hsz]; exact hi116) rfl (Lib.setCells_one _)
      have hl : (Instr.loadAt 75 (.pointer (some ⟨w.heap.size, 0, none⟩))).run Tryd.prog (w.alloc (.cells (Lib.setCells chars.data.toList) 75)) = .ok (.agg (Lib.setCells chars.data.toList)) (w.alloc (.cells (Lib.setCells chars.data.toList) 75)) := by
        simp [Instr.loadAt, Instr.sureAddr, asAddr, Result.andThen, hld]
      have hst : (Instr.storeAt 75 (.pointer (some ⟨w.heap.size, 0, none⟩)) (.agg (Lib.setCells chars.data.toList))).run Tryd.prog (w.alloc (.cells (Lib.setCells chars.data.toList) 75)) = .ok () (w.alloc (.cells (Lib.setCells chars.data.toList) 75)) := by
        have := run_storeVar_new (P := Tryd.prog) w 75 (Lib.setCells chars.data.toList) (Lib.setCells chars.data.toList) (by rw [hsz]; exact hi116) rfl (Lib.setCells_one _)
        simp [Instr.storeAt, Instr.sureAddr, asAddr, Result.andThen, this]
      go_wp2
      unfold Oper.wp
      have hrun : ∀ (f : Operand → Value) (o : Oper), f (.tmp 2) = .pointer (some ⟨w.heap.size, 0, none⟩) → o.op = .load 75 (.tmp 2) → (execOp f o).run Tryd.prog (w.alloc (.cells (Lib.setCells chars.data.toList) 75)) = .ok (.value (.agg (Lib.setCells chars.data.toList))) (w.alloc (.cells (Lib.setCells chars.data.toList) 75)) := fun f o h1 h2 => by simp [execOp, h1, h2, hl, Result.andThen]
      rw [hrun _ _ rfl rfl, Oper.upon_value]
      go_wp2
      (try simp only [Exit.inBlock, Exit.then])
      refine bodyPost_ret (v := .tuple #[.agg (Lib.setCells chars.data.toList), .bool true]) ?_ rfl ⟨rfl, rfl⟩
      rw [results_cell_tmp rfl]
      simp [asAddr, Result.andThen, hld]
    | succ g =>
      have hi : i < chars.size := by omega
      have hiz : (i : Int) < (chars.size : Int) := by omega
      obtain ⟨x, hx⟩ : ∃ x : UInt8, chars[i]'hi = x := ⟨_, rfl⟩
      have hxl : chars.data.toList[i]? = some x := by rw [← hx]; exact Lib.data_getElem? chars i hi
      have hx128 : ¬ ((128 : Int) ≤ (x.toNat : Int)) := by have := HA.out i x hxl; omega
      have hx256 : (x.toNat : Int) < 256 := by have := HA.out i x hxl; omega
      have hcell := Lib.setCells_at (chars.data.toList.take i) x
      have Hx : Aside (chars.data.toList[i]? = some x) := hxl
      clear hxl
      go_wp2
      go_roundg g
      case measure => omega
      case rel => exact ⟨i + 1, by omega, by first | rfl | simp, by rw [List.take_add_one, Hx.out]; simp only [Option.toList]; rw [Lib.setCells_snoc]⟩

set_option maxHeartbeats 2000000 in
set_option maxRecDepth 1000000 in
theorem contains_calls (b : Nat) (x : UInt8) (v : Bool) (w : World) (hc : w.cell? ⟨b, x.toNat, none⟩ = some (.bool v)) :
    Calls Tryd.prog 56 #[.pointer (some ⟨b, 0, none⟩), .int .u8 x.toNat] w fun e w' => e = .returned (.bool v) ∧ w' = w := by
  have hx256 : (x.toNat : Int) < 256 := by have := UInt8.toNat_lt x; omega
  go_enter Tryd.func56, Tryd.ntmps56
  go_wp2
  go_ret
  exact ⟨rfl, rfl⟩

set_option maxHeartbeats 8000000 in
set_option maxRecDepth 1000000 in
theorem any_long (s : ByteArray) (w : World) (h8 : 8 < s.size) (hs : s.size ≤ 281474976710656) : Calls Tryd.prog 43 #[.string s, .string two2] w fun e w' => (∃ i : Int, e = .returned (.int .i64 i) ∧ decide (0 ≤ i) = hasBad s.data.toList) ∧ Below w.heap.size w w' := by
  obtain ⟨hv116, hi116⟩ := zero_set
  have hM := makeSet_calls two2 w (by decide) (by
    intro j b hb
    have hm := List.mem_of_getElem? hb
    have : b = 47 ∨ b = 0 := by simpa [two2] using hm
    rcases this with rfl | rfl <;> decide)
  obtain ⟨cl, hcl⟩ : ∃ l : List UInt8, two2.data.toList = l := ⟨_, rfl⟩
  rw [hcl] at hM
  have HCL := Aside0.mk hcl
  clear hcl
  have hemp : (⟨#[47, 0]⟩ : ByteArray).toList.isEmpty = false := by rw [Lib.toList_data]; rfl
  have hn1 : (((⟨#[47, 0]⟩ : ByteArray).size : Int) == 1) = false := by decide
  have h8z : decide ((8 : Int) < (s.size : Int)) = true := decide_eq_true (by omega)
  have hsc : (storeCells ⟨w.heap.size + 1, 0, none⟩ (Lib.setCells cl).toList 0).run Tryd.prog ((w.alloc (.cells (Lib.setCells cl) 75)).alloc (.cells (Array.replicate 256 (.bool false)) 75)) = .ok () ((w.alloc (.cells (Lib.setCells cl) 75)).alloc (.cells (Lib.setCells cl) 75)) := by
    have := run_storeCells_new (P := Tryd.prog) (w.alloc (.cells (Lib.setCells cl) 75)) 75 (Array.replicate 256 (.bool false)) (Lib.setCells cl) (by rw [Lib.setCells_size]; exact hi116) (by rw [Lib.setCells_size, Array.size_replicate]) (Lib.setCells_one _)
    simpa using this
  have hsz := Lib.setCells_size cl
  have hcellAt : ∀ x : UInt8, ((w.alloc (.cells (Lib.setCells cl) 75)).alloc (.cells (Lib.setCells cl) 75)).cell? ⟨w.heap.size + 1, x.toNat, none⟩ = some (.bool (cl.contains x)) := fun x => by
    rw [World.cell?_alloc_at _ _ _ _ (by simp), Lib.setCells_at]
  have HC : Aside (∀ x : UInt8, ((w.alloc (.cells (Lib.setCells cl) 75)).alloc (.cells (Lib.setCells cl) 75)).cell? ⟨w.heap.size + 1, x.toNat, none⟩ = some (.bool (cl.contains x))) := hcellAt
  clear hcellAt
  have tS := Tryd.underlying75
  unfold two2 at hM ⊢
  go_enter Tryd.func43, Tryd.ntmps43
  go_wp2_with (first
    | (go_at_call 54; refine (useSet_calls _ _).mono ?_; rintro e w' ⟨rfl, hw⟩; rw [hw, h8z])
    | (go_at_call 55; refine hM.mono ?_; rintro e w' ⟨rfl, hw⟩; rw [hw]))
  clear hM hsc
  go_loopg [8] s.size (fun g s8 wx => ∃ i : Nat, i + g = s.size ∧ s8 = .int .i64 i ∧ wx = ((w.alloc (.cells (Lib.setCells cl) 75)).alloc (.cells (Lib.setCells cl) 75)) ∧ NoBad s i)
  case atStart => exact ⟨0, by omega, rfl, rfl, NoBad.zero _⟩
  case round =>
    obtain ⟨i, hig, rfl, rfl, hno⟩ := hrel
    have HN : Aside (NoBad s i) := hno
    clear hno
    cases gk with
    | zero =>
      obtain rfl : i = s.size := by omega
      have hiz : ¬ ((s.size : Int) < (s.size : Int)) := by omega
      go_wp2
      go_ret
      exact ⟨⟨_, rfl, by rw [HN.out.all]; rfl⟩, ((Below.refl _ _).alloc (Nat.le_refl _) _).alloc (by simp) _⟩
    | succ g =>
      have hi : i < s.size := by omega
      have hiz : (i : Int) < (s.size : Int) := by omega
      obtain ⟨x, hx⟩ : ∃ x : UInt8, s[i]'hi = x := ⟨_, rfl⟩
      have hcx := HC.out x
      have hcon : cl.contains x = (x == 47 || x == 0) := by
        rw [← HCL.out]
        show ([47, 0] : List UInt8).contains x = (x == 47 || x == 0)
        simp only [List.contains_cons, List.contains_nil, Bool.or_false]
      cases hin : cl.contains x <;> rw [hin] at hcx
      · rw [hin] at hcon
        have hn : x ≠ 47 ∧ x ≠ 0 := by simpa using hcon.symm
        clear hcon
        go_wp2_with (go_at_call 56; refine (contains_calls _ x _ _ hcx).mono ?_; rintro e w' ⟨rfl, hw⟩; rw [hw])
        go_roundg g
        case measure => omega
        case rel => exact ⟨i + 1, by omega, by first | rfl | simp, rfl, HN.out.succ hi (by rw [hx]; exact hn.1) (by rw [hx]; exact hn.2)⟩
      · rw [hin] at hcon
        have hn : x = 47 ∨ x = 0 := by simpa using hcon.symm
        have hbad := hasBad_at hi (by rw [hx]; exact hn)
        clear hcon
        go_wp2_with (go_at_call 56; refine (contains_calls _ x _ _ hcx).mono ?_; rintro e w' ⟨rfl, hw⟩; rw [hw])
        go_ret
        exact ⟨⟨_, rfl, by rw [hbad]; exact decide_eq_true (by omega)⟩, ((Below.refl _ _).alloc (Nat.le_refl _) _).alloc (by simp) _⟩

theorem containsAny_calls (s : ByteArray) (w : World) (hs : s.size ≤ 281474976710656) : Calls Tryd.prog 34 #[.string s, .string two2] w fun e w' => e = .returned (.bool (hasBad s.data.toList)) ∧ Below w.heap.size w w' := by
  have hA : Calls Tryd.prog 43 #[.string s, .string two2] w fun e w' => (∃ i : Int, e = .returned (.int .i64 i) ∧ decide (0 ≤ i) = hasBad s.data.toList) ∧ Below w.heap.size w w' := by
    by_cases h8 : s.size ≤ 8
    · exact any_short s w h8
    · exact any_long s w (by omega) hs
  unfold two2 at hA ⊢
  go_enter Tryd.func34, Tryd.ntmps34
  go_wp2_with (go_at_call 43; (with_reducible refine hA.mono ?_); rintro e w' ⟨⟨i, rfl, hi⟩, hw⟩)
  go_ret
  exact ⟨by rw [← hi]; rfl, hw⟩

def names_Right.f (a0 : ByteArray) : Option Int :=
  if a0.size ≤ 281474976710656 then some (if a0.toList = [] then 2 else if hasBad a0.data.toList = true ∨ a0.toList = [46] ∨ a0.toList = [46, 46] then 22 else if 24 < (a0.size : Int) then 36 else 0) else none
set_option maxHeartbeats 8000000 in
set_option maxRecDepth 1000000 in
theorem names_Right.calls (a0 : ByteArray) (r : Int) (w : World) (h : names_Right.f a0 = some r) : Calls Tryd.prog 12 #[.string a0] w fun e w' => e = .returned (.int .i64 r) ∧ Below w.heap.size w w' := by
  unfold names_Right.f at h
  split at h
  · rename_i hs
    cases h
    have hA := fun w => containsAny_calls a0 w hs
    unfold two2 at hA
    by_cases h0 : a0.toList = []
    · rw [if_pos h0]
      go_enter Tryd.func12, Tryd.ntmps12
      go_wp2
      go_ret
      exact ⟨rfl, Below.refl _ _⟩
    · rw [if_neg h0]
      have hemp : a0.toList.isEmpty = false := by simpa using h0
      cases hb : hasBad a0.data.toList with
      | true =>
        rw [if_pos (.inl rfl)]
        go_enter Tryd.func12, Tryd.ntmps12
        go_wp2_with (go_at_call 34; (with_reducible refine (hA _).mono ?_); rintro e w' ⟨rfl, hw⟩; rw [hb])
        go_ret
        exact ⟨rfl, hw⟩
      | false =>
        by_cases h1 : a0.toList = [46]
        · rw [if_pos (.inr (.inl h1))]
          go_enter Tryd.func12, Tryd.ntmps12
          go_wp2_with (go_at_call 34; (with_reducible refine (hA _).mono ?_); rintro e w' ⟨rfl, hw⟩; rw [hb])
          go_ret
          exact ⟨rfl, hw⟩
        · have e1 : (a0.toList == [46]) = false := beq_eq_false_iff_ne.2 h1
          by_cases h2 : a0.toList = [46, 46]
          · rw [if_pos (.inr (.inr h2))]
            go_enter Tryd.func12, Tryd.ntmps12
            go_wp2_with (go_at_call 34; (with_reducible refine (hA _).mono ?_); rintro e w' ⟨rfl, hw⟩; rw [hb])
            go_ret
            exact ⟨rfl, hw⟩
          · rw [if_neg (by simp [h1, h2])]
            have e2 : (a0.toList == [46, 46]) = false := beq_eq_false_iff_ne.2 h2
            by_cases h3 : 24 < (a0.size : Int)
            · rw [if_pos h3]
              go_enter Tryd.func12, Tryd.ntmps12
              go_wp2_with (go_at_call 34; (with_reducible refine (hA _).mono ?_); rintro e w' ⟨rfl, hw⟩; rw [hb])
              go_ret
              exact ⟨rfl, hw⟩
            · rw [if_neg h3]
              go_enter Tryd.func12, Tryd.ntmps12
              go_wp2_with (go_at_call 34; (with_reducible refine (hA _).mono ?_); rintro e w' ⟨rfl, hw⟩; rw [hb])
              go_ret
              exact ⟨rfl, hw⟩
  · cases h
end Go.Proofs.YthcooheghekplaaDoor.Q
