/- HandlesLeast, walked. -/
import Derived.Test.YtgjajdejjiiocaaA1
import Derived.Test.YtgjajdejjiiocaaH11
namespace Go.Proofs.Ytgjajdejjiiocaa.Q
open Go.RowKit Go.Proofs.YtgjajdejjiiocaaW.PrintWords Go.Proofs.YtgjajdejjiiocaaW.PrintLast Go.Proofs.Ytgjajdejjiiocaa.Sep
set_option linter.unusedVariables false
set_option linter.unusedSimpArgs false
theorem row_atC {w : World} {A : Option Addr} {xs : List Int} (hC : Kd.C (Kd.int .i64) w A xs.length xs) : ∃ b off, ∀ j x, xs[j]? = some x → A = some ⟨b, off, none⟩ ∧ b < w.heap.size ∧ w.cell? ⟨b, off + j, none⟩ = some (.int .i64 x) := by
  have hs : Src (Value.int .i64) w [] A xs := Src.of_C (h1 := fun _ => rfl) hC
  rcases hs with hs | ⟨b, off, hA, hs⟩
  · subst hs
    exact ⟨0, 0, fun j x hx => by simp at hx⟩
  · refine ⟨b, off, fun j x hx => ?_⟩
    rcases hs with ⟨hb, hs⟩ | ⟨cs, ty, fz, hm, _⟩
    · exact ⟨hA, hb, hs j x hx⟩
    · simp at hm
/-- A row of numbers stays where tables turn. -/
theorem R_only {w w1 : World} {base B : Nat} {v : Value} {xs : List Int} {X : TypeId → Bool} (h : Kd.R (Kd.int .i64) 3 w base (fun _ => True) v xs) (k : Only B X w w1) (hX : X 3 = false) : Kd.R (Kd.int .i64) 3 w1 base (fun _ => True) v xs :=
  Kd.R_mono (Kd.R_move (Kd.R_bound h) (fun b hb => by
    obtain ⟨_, _, _, q, hq, cells, hc⟩ := hb
    have hq3 : q = 3 := by
      rcases List.mem_cons.1 hq with e | e
      · exact e
      · cases e
    subst hq3
    rw [hc]
    exact k.block _ _ _ _ hX hc)) (fun _ _ => trivial)
/-- A table stays where a row of numbers grows. -/
theorem Tab.grown {w w1 : World} {B t base : Nat} {as_ : List (Option Nat)} {S : List (Option Fl)} {v : Value} {xs : List Int} (h : Tab w B t as_ S) (hR : Kd.R (Kd.int .i64) 3 w base (fun _ => True) v xs) (hg : w.grownBy w1 v.ownBlock) : Tab w1 B t as_ S := by
  have keep : ∀ (b : Nat) (cs : Array Value) (ty : TypeId), ty ≠ 3 → w.heap[b]? = some (Obj.cells cs ty (0, 0)) → w1.heap[b]? = some (Obj.cells cs ty (0, 0)) := fun b cs ty ht hb =>
    (hg.block b (Only.lt hb) (fun e => Kd.R_ne hR hb (Ne.symm ht) e)).trans hb
  exact ⟨h.la, h.ls, keep _ _ _ (by decide) h.blk, h.base, fun i a hi => by
    obtain ⟨hb, f, hf, hc⟩ := h.file i a hi
    exact ⟨hb, f, hf, keep _ _ _ (by decide) hc⟩, h.non, h.inj⟩
theorem len_calls {w : World} {B t : Nat} {as_ : List (Option Nat)} {S : List (Option Fl)} (g : Nat) (hT : Tab w B t as_ S) (hB : B ≤ w.heap.size) (hg : ((numsTo S 32).length : Int) = 32 - (g : Int)) : Calls Try.prog 11 #[.pointer (some ⟨t, 0, none⟩)] w fun e w' => ∃ A m c, e = .returned (.slice A m c) ∧ (m : Int) = 32 - (g : Int) ∧ Below w.heap.size w w' := by
  refine (numbers_calls hT hB).mono ?_
  rintro e w1 ⟨v, rfl, hr, hb⟩
  obtain ⟨A, c, rfl⟩ := Kd.R_slice hr
  exact ⟨A, _, c, rfl, hg, hb⟩
theorem mem_take_succ {G : List Int} {j : Nat} {y : Int} (x : Int) (h : G[j]? = some y) : decide (x ∈ G.take (j + 1)) = (decide (x ∈ G.take j) || (y == x)) := by
  rw [List.take_add_one, h]
  simp only [Option.toList, List.mem_append, List.mem_singleton]
  by_cases a : x ∈ G.take j <;> by_cases b : y = x <;> simp [a, b]
  by_cases e : x = y
  · exact (b e.symm).elim
  · simp [e, b]
theorem close_x {G : List Int} {x : Int} (h : ¬ x < 0 ∧ ¬ 32 ≤ x ∧ x ∉ G) : (closeS (SG G) x).1 = SG (G ++ [x]) := by
  obtain ⟨k, rfl⟩ := Int.eq_ofNat_of_zero_le (Int.not_lt.1 h.1)
  rw [close_there (by omega) h.2.2]
theorem close_y {G : List Int} {x : Int} (h : ¬ x < 0 ∧ ¬ 32 ≤ x ∧ x ∉ G) : Value.tuple #[.int .i64 (closeS (SG G) x).2.1, .bool (closeS (SG G) x).2.2.1, .int .i64 (closeS (SG G) x).2.2.2] = .tuple #[.int .i64 (1 + x), .bool true, .int .i64 0] := by
  obtain ⟨k, rfl⟩ := Int.eq_ofNat_of_zero_le (Int.not_lt.1 h.1)
  rw [close_there (by omega) h.2.2]
/-- Draws apart, the same world. -/
structure Sm (a b : World) : Prop where
  heap : b.heap = a.heap
  os : b.os = a.os
  tape : b.tape = a.tape
  output : b.output = a.output
theorem Sm.refl (a : World) : Sm a a := ⟨rfl, rfl, rfl, rfl⟩
theorem Sm.drewN {a b : World} (h : Sm a b) (n : Nat) : Sm a (b.drewN n) := ⟨h.heap, h.os, h.tape, h.output⟩
theorem Sm.drew {a b : World} (h : Sm a b) : Sm a b.drew := ⟨h.heap, h.os, h.tape, h.output⟩
theorem Sm.cell {a b : World} (h : Sm a b) (p : Addr) : b.cell? p = a.cell? p := World.cell?_of_block (w := a) (by rw [h.heap])
theorem Sm.below {a b : World} (h : Sm a b) (B : Nat) : Below B a b := ⟨h.os, h.tape, h.output, by rw [h.heap]; exact Nat.le_refl _, fun k _ => by rw [h.heap]⟩
set_option maxHeartbeats 4000000 in
set_option maxRecDepth 100000 in
theorem least_walk (A : Option Addr) (c : Nat) (l : List Int) (w : World) (hr : Kd.C (Kd.int .i64) w A l.length l) (hc : l.length ≤ c) (hl : l.length ≤ 9223372036854775807) : Calls Try.prog 3 #[.slice A l.length c] w (RetPost w (.bool true)) := by
  have HR := Aside0.mk (row_atC hr)
  clear hr
  go_enter Try.func3, Try.ntmps3
  go_wp2_with (first
    | (go_at_call 7; (with_reducible refine (New_calls _).mono ?_); rintro e w1 ⟨t, rfl, ⟨as1, T1⟩, b1⟩; have HT := Aside0.mk T1; have HB := Aside0.mk b1; clear T1 b1)
    | (go_at_call 8; (with_reducible refine (alive_calls _).mono ?_); rintro e w2 ⟨rfl, b2⟩; have HT2 := Aside0.mk (HT.out.below b2 HB.out.size); have HB2 := Aside0.mk (bt HB.out b2); clear b2))
  rw [← SH_zero] at HT2
  clear HT HB
  go_loopw [4] (fun i wr => ∃ (h : Nat) (as_ : List (Option Nat)), h ≤ 32 ∧ i = .int .i64 h ∧ Aside0 (Tab wr w.heap.size t as_ (SH h)) ∧ Aside0 (Below w.heap.size w wr)) (fun i _ => 32 - (intOf i).toNat)
  case atStart => exact ⟨0, _, by omega, rfl, HT2, HB2⟩
  case round =>
    clear HT2 HB2
    obtain ⟨h, as_, hh, rfl, HT, HB⟩ := hrel
    by_cases hlt : h < 32
    · have C := Aside0.mk ((open_calls (1 + (h : Int)) 1 HT.out HB.out.size).mono (fun e w'' h' => TabPost.at_ h' (S' := SH (h + 1)) (v' := .tuple #[.int .i64 h, .int .i64 0]) (by rw [open_SH hlt]) (by rw [open_SH hlt])))
      go_wp2_with (go_at_call 9; (with_reducible refine C.out.mono ?_); rintro e w3 ⟨rfl, ⟨as3, T3⟩, b3⟩; have HT3 := Aside0.mk T3; have HB3 := Aside0.mk (HB.out.trans b3.below); clear T3 b3)
      go_roundw
      case rel => exact ⟨h + 1, _, by omega, by go_num, HT3, HB3⟩
      case measure => simp [intOf]; omega
    · obtain rfl : h = 32 := by omega
      rw [SH_all] at HT
      have C := Aside0.mk ((open_calls 1 1 HT.out HB.out.size).mono (fun e w'' h' => TabPost.at_ h' (S' := SG []) (v' := .tuple #[.int .i64 0, .int .i64 24]) (by rw [open_full]) (by rw [open_full])))
      go_wp2_with (go_at_call 9; (with_reducible refine C.out.mono ?_); rintro e w3 ⟨rfl, ⟨as3, T3⟩, b3⟩; have HT3 := Aside0.mk T3; have HB3 := Aside0.mk (HB.out.trans b3.below); clear T3 b3)
      clear HT HB C
      go_loopw [9, 10, 11] (fun m g i wr => ∃ (G : List Int) (v : Value) (k : Nat) (as_ : List (Option Nat)), k ≤ l.length ∧ Aside0 (Gone G) ∧ m = .int .i64 (leastG G) ∧ g = v ∧ i = .int .i64 k ∧ Aside0 (Tab wr w.heap.size t as_ (SG G)) ∧ Aside0 (Kd.R (Kd.int .i64) 3 wr w.heap.size (fun _ => True) v G) ∧ Aside0 (Below w.heap.size w wr)) (fun _ _ i _ => l.length - (intOf i).toNat)
      case atStart => exact ⟨[], _, 0, _, by omega, ⟨gone_nil⟩, rfl, rfl, rfl, HT3, ⟨Kd.R_nil _ _ _ _ _⟩, HB3⟩
      case round =>
        clear HT3 HB3
        obtain ⟨G, v, k, as4, hk, HG, rfl, rfl, rfl, HT, HV, HB⟩ := hrel
        by_cases hlt : k < l.length
        · obtain ⟨b, off, hrd⟩ := HR.out
          obtain ⟨x, hx⟩ : ∃ x, l[k]? = some x := ⟨_, List.getElem?_eq_getElem hlt⟩
          obtain ⟨rfl, hbw, hcx⟩ := hrd k x hx
          have hcx1 := (HB.out.cell (p := ⟨b, off + k, none⟩) hbw).trans hcx
          clear hrd
          have hgl := gone_len HG.out
          by_cases hin : x < 0 ∨ 32 ≤ x ∨ x ∈ G
          · have C := Aside0.mk ((close_calls x HT.out HB.out.size).mono (fun e w'' h' => TabPost.at_ h' (S' := SG G) (v' := .tuple #[.int .i64 0, .bool false, .int .i64 9]) (by rw [close_gone hin]) (by rw [close_gone hin])))
            have HIN := Aside0.mk hin
            clear hin hx hcx
            obtain ⟨A2, c2, rfl⟩ := Kd.R_slice HV.out
            go_wp2_with (go_at_call 10; (with_reducible refine C.out.mono ?_); rintro e w3 ⟨rfl, ⟨as3, T3⟩, b3⟩; have HT3 := Aside0.mk T3; have HB3 := Aside0.mk (HB.out.trans b3.below); have HV3 := Aside0.mk (R_only HV.out b3 rfl); clear T3 b3)
            have hcx3 := (HB3.out.cell (p := ⟨b, off + k, none⟩) hbw).trans ((HB.out.cell (p := ⟨b, off + k, none⟩) hbw).symm.trans hcx1)
            clear HT HB HV C hcx1
            go_loopw [15, 16] (fun tw i wr => ∃ j : Nat, j ≤ G.length ∧ i = .int .i64 j ∧ tw = .bool (decide (x ∈ G.take j)) ∧ Aside0 (Sm w3 wr)) (fun _ i _ => G.length - (intOf i).toNat)
            case atStart => exact ⟨0, by omega, rfl, by simp, ⟨Sm.refl _⟩⟩
            case round =>
              obtain ⟨j, hj, rfl, rfl, HSm⟩ := hrel
              have hcx4 := (HSm.out.cell ⟨b, off + k, none⟩).trans hcx3
              have i0 : (0 : Int) ≤ (k : Int) := by omega
              have i1 : (k : Int) < (l.length : Int) := by omega
              by_cases hjl : j < G.length
              · obtain ⟨y, hy⟩ : ∃ y, G[j]? = some y := ⟨_, List.getElem?_eq_getElem hjl⟩
                obtain ⟨b2, off2, hrd2⟩ := (row_at HV3.out).2
                obtain ⟨rfl, hcy⟩ := hrd2 j y hy
                have hcy4 := (HSm.out.cell _).trans hcy
                have HS := Aside0.mk (mem_take_succ x hy)
                clear hrd2 hy hcy hcx3
                have i2 : (0 : Int) ≤ (j : Int) := by omega
                have i3 : (j : Int) < (G.length : Int) := by omega
                obtain ⟨tw, htw⟩ : ∃ tw, decide (x ∈ G.take j) = tw := ⟨_, rfl⟩
                rw [htw] at HS ⊢
                clear htw
                cases tw with
                | true =>
                  go_wp2
                  go_quiet (fail)
                  go_wp2
                  go_roundw
                  case rel => exact ⟨j + 1, by omega, by go_num, by rw [HS.out]; rfl, ⟨HSm.out.drewN _⟩⟩
                  case measure => simp [intOf]; omega
                | false =>
                  go_wp2
                  go_quiet (fail)
                  go_wp2
                  go_roundw
                  case rel => exact ⟨j + 1, by omega, by go_num, by rw [HS.out]; rfl, ⟨HSm.out.drewN _⟩⟩
                  case measure => simp [intOf]; omega
              · obtain rfl : j = G.length := by omega
                have HT5 := Aside0.mk (HT3.out.any HSm.out.heap)
                have HB5 := Aside0.mk (HB3.out.trans (HSm.out.below _))
                have HV5 := Aside0.mk (Kd.R_below HV3.out (HSm.out.below _))
                obtain ⟨tw, htw⟩ : ∃ tw, decide (x ∈ G.take G.length) = tw := ⟨_, rfl⟩
                have HTW := Aside0.mk htw
                rw [htw]
                clear htw HT3 HB3 HV3 HSm hcx3
                rcases HIN.out with h1 | h1 | h1
                · go_wp2
                  go_roundw
                  case rel => exact ⟨G, _, k + 1, _, by omega, HG, rfl, rfl, by go_num, HT5, HV5, HB5⟩
                  case measure => simp [intOf]; omega
                · have h0 : ¬ x < 0 := by omega
                  go_wp2
                  go_roundw
                  case rel => exact ⟨G, _, k + 1, _, by omega, HG, rfl, rfl, by go_num, HT5, HV5, HB5⟩
                  case measure => simp [intOf]; omega
                · have htt : tw = true := by rw [← HTW.out, List.take_length]; exact decide_eq_true h1
                  subst htt
                  have hgr := HG.out.2 x h1
                  have h0 : ¬ x < 0 := by omega
                  have h00 : ¬ 32 ≤ x := by omega
                  clear h1 hgr
                  go_wp2
                  go_roundw
                  case rel => exact ⟨G, _, k + 1, _, by omega, HG, rfl, rfl, by go_num, HT5, HV5, HB5⟩
                  case measure => simp [intOf]; omega
          · have hin1 : ¬ x < 0 ∧ ¬ 32 ≤ x ∧ x ∉ G := ⟨fun h => hin (.inl h), fun h => hin (.inr (.inl h)), fun h => hin (.inr (.inr h))⟩
            have HIN := Aside0.mk hin1
            have C := Aside0.mk ((close_calls x HT.out HB.out.size).mono (fun e w'' h' => TabPost.at_ h' (S' := SG (G ++ [x])) (v' := .tuple #[.int .i64 (1 + x), .bool true, .int .i64 0]) (close_x hin1) (close_y hin1)))
            clear hin hin1 hx hcx
            obtain ⟨A2, c2, rfl⟩ := Kd.R_slice HV.out
            go_wp2_with (go_at_call 10; (with_reducible refine C.out.mono ?_); rintro e w3 ⟨rfl, ⟨as3, T3⟩, b3⟩; have HT3 := Aside0.mk T3; have HB3 := Aside0.mk (HB.out.trans b3.below); have HV3 := Aside0.mk (R_only HV.out b3 rfl); clear T3 b3)
            have hcx3 := (HB3.out.cell (p := ⟨b, off + k, none⟩) hbw).trans ((HB.out.cell (p := ⟨b, off + k, none⟩) hbw).symm.trans hcx1)
            clear HT HB HV C hcx1
            go_loopw [15, 16] (fun tw i wr => ∃ j : Nat, j ≤ G.length ∧ i = .int .i64 j ∧ tw = .bool (decide (x ∈ G.take j)) ∧ Aside0 (Sm w3 wr)) (fun _ i _ => G.length - (intOf i).toNat)
            case atStart => exact ⟨0, by omega, rfl, by simp, ⟨Sm.refl _⟩⟩
            case round =>
              obtain ⟨j, hj, rfl, rfl, HSm⟩ := hrel
              have hcx4 := (HSm.out.cell ⟨b, off + k, none⟩).trans hcx3
              have i0 : (0 : Int) ≤ (k : Int) := by omega
              have i1 : (k : Int) < (l.length : Int) := by omega
              by_cases hjl : j < G.length
              · obtain ⟨y, hy⟩ : ∃ y, G[j]? = some y := ⟨_, List.getElem?_eq_getElem hjl⟩
                obtain ⟨b2, off2, hrd2⟩ := (row_at HV3.out).2
                obtain ⟨rfl, hcy⟩ := hrd2 j y hy
                have hcy4 := (HSm.out.cell _).trans hcy
                have HS := Aside0.mk (mem_take_succ x hy)
                clear hrd2 hy hcy hcx3
                have i2 : (0 : Int) ≤ (j : Int) := by omega
                have i3 : (j : Int) < (G.length : Int) := by omega
                obtain ⟨tw, htw⟩ : ∃ tw, decide (x ∈ G.take j) = tw := ⟨_, rfl⟩
                rw [htw] at HS ⊢
                clear htw
                cases tw with
                | true =>
                  go_wp2
                  go_quiet (fail)
                  go_wp2
                  go_roundw
                  case rel => exact ⟨j + 1, by omega, by go_num, by rw [HS.out]; rfl, ⟨HSm.out.drewN _⟩⟩
                  case measure => simp [intOf]; omega
                | false =>
                  go_wp2
                  go_quiet (fail)
                  go_wp2
                  go_roundw
                  case rel => exact ⟨j + 1, by omega, by go_num, by rw [HS.out]; rfl, ⟨HSm.out.drewN _⟩⟩
                  case measure => simp [intOf]; omega
              · obtain rfl : j = G.length := by omega
                have HT5 := Aside0.mk (HT3.out.any HSm.out.heap)
                have HB5 := Aside0.mk (HB3.out.trans (HSm.out.below _))
                have HV5 := Aside0.mk (Kd.R_below HV3.out (HSm.out.below _))
                obtain ⟨tw, htw⟩ : ∃ tw, decide (x ∈ G.take G.length) = tw := ⟨_, rfl⟩
                have HTW := Aside0.mk htw
                rw [htw]
                clear htw HT3 HB3 HV3 HSm hcx3
                have htt : tw = false := by rw [← HTW.out, List.take_length]; exact decide_eq_false (by have := HIN.out; exact this.2.2)
                subst htt
                have h0 : ¬ x < 0 := by have := HIN.out; omega
                have h00 : ¬ 32 ≤ x := by have := HIN.out; omega
                have hsn := Aside0.mk (leastG_snoc G x)
                obtain ⟨m, rfl⟩ := Int.eq_ofNat_of_zero_le (Int.not_lt.1 h0)
                have HG2 := Aside0.mk (gone_snoc (k := m) HG.out (by omega) (by have := HIN.out; exact this.2.2))
                go_wp2_with ((with_reducible refine gate_builtin (b := .append) (xs := #[.tmp 124, .tmp 129]) rfl ?_); at_builtin; refine Kd.R_append (Kd.int .i64) (w0 := w) w.heap.size rfl (.tmp 124) (.tmp 129) 22 3 (.int .i64 0) 8 rfl Try.underlying22 info3 rfl (by decide) (by omega) _ G (m : Int) [.int .i64 m] (fun _ => True) (fun _ => False) rfl rfl ?aP (fun _ hk => hk.elim) (fun _ _ => trivial) HV5.out HB5.out HB5.out.size ?aL ?_; (case aP => exact rfl); (case aL => omega); intro v1 w1 ho hb hg hat; have HT6 := Aside0.mk (HT5.out.grown HV5.out hg); have HR6 := Aside0.mk ho; have HB6 := Aside0.mk hb; have hcx6 := (hb.cell (p := ⟨b, off + k, none⟩) hbw).trans ((HB5.out.cell (p := ⟨b, off + k, none⟩) hbw).symm.trans hcx4); clear ho hb hg hat)
                all_goals
                  go_roundw
                  case rel => exact ⟨G ++ [(m : Int)], _, k + 1, _, by omega, HG2, by rw [hsn.out]; congr 1; omega, rfl, by go_num, HT6, HR6, HB6⟩
                  case measure => simp [intOf]; omega
        · obtain rfl : k = l.length := by omega
          have hgl := gone_len HG.out
          obtain ⟨A2, c2, rfl⟩ := Kd.R_slice HV.out
          have C := Aside0.mk (len_calls G.length HT.out HB.out.size (nums_len HG.out))
          go_wp2_with (go_at_call 11; (with_reducible refine C.out.mono ?_); rintro e w5 ⟨A3, m3, c3, rfl, hm3, b3⟩; have HT5 := Aside0.mk (HT.out.below b3 HB.out.size); have HB5 := Aside0.mk (bt HB.out b3); have hm4 : ((m3 : Int) != 32 - (G.length : Int)) = false := (by rw [hm3]; simp); clear hm3 b3)
          have C2 := open_calls 7 2 HT5.out HB5.out.size
          rw [open_SG HG.out] at C2
          have hlg := leastG_lt HG.out
          by_cases hG : G = []
          · subst hG
            rw [if_neg (by rw [hlg]; simp)] at C2
            have C3 := Aside0.mk C2
            clear C2 hlg
            refine C3.out.mono ?_
            rintro e w6 ⟨rfl, _, b6⟩
            have HB6 := Aside0.mk (HB5.out.trans b6.below)
            clear b6
            go_wp2
            go_ret
            exact ⟨rfl, HB6.out⟩
          · rw [if_pos (hlg.2 hG)] at C2
            have C3 := Aside0.mk C2
            clear C2 hlg
            have hg0 : ((G.length : Int) == 0) = false := by
              rw [beq_eq_false_iff_ne]
              intro e
              exact hG (List.length_eq_zero_iff.1 (by omega))
            clear hG
            generalize leastG G = lg at *
            refine C3.out.mono ?_
            rintro e w6 ⟨rfl, _, b6⟩
            have HB6 := Aside0.mk (HB5.out.trans b6.below)
            clear b6
            go_wp2
            go_ret
            exact ⟨rfl, HB6.out⟩
def pumicelaw23_HandlesLeast.f (l0 : List Int) : Option Bool := some true
theorem pumicelaw23_HandlesLeast.calls (A0 : Option Addr) (c0 : Nat) (l0 : List Int) (r : Bool) (w : World) (hr0 : Kd.C (Kd.int .i64) w A0 l0.length l0) (hc0 : l0.length ≤ c0) (h : pumicelaw23_HandlesLeast.f l0 = some r) : Calls Try.prog 3 #[.slice A0 l0.length c0] w fun e w' => e = .returned (.bool r) ∧ Below w.heap.size w w' := by
  obtain rfl := Option.some.inj h
  exact least_walk A0 c0 l0 w hr0 hc0 hr0.2.1
end Go.Proofs.Ytgjajdejjiiocaa.Q
