/- HandlesPlays, walked. -/
import Derived.Test.YtgjajdejjiiocaaG3
namespace Go.Proofs.Ytgjajdejjiiocaa.Q
open Go.RowKit Go.Proofs.YtgjajdejjiiocaaW.PrintWords Go.Proofs.YtgjajdejjiiocaaW.PrintLast Go.Proofs.Ytgjajdejjiiocaa.Sep
set_option linter.unusedVariables false
set_option linter.unusedSimpArgs false
def inI (n : Int) : Bool := decide (-9223372036854775808 ≤ n) && decide (n ≤ 9223372036854775807)
theorem inI_b {n : Int} (h : inI n = true) : -9223372036854775808 ≤ n ∧ n ≤ 9223372036854775807 := by unfold inI at h; simpa using h
def okL (l : List S37) : Bool := l.all fun x => inI x.f4 && inI x.f6
theorem okL_at {l : List S37} (h : okL l = true) {k : Nat} {x : S37} (hx : l[k]? = some x) : (-9223372036854775808 ≤ x.f4 ∧ x.f4 ≤ 9223372036854775807) ∧ (-9223372036854775808 ≤ x.f6 ∧ x.f6 ≤ 9223372036854775807) := by
  have := List.all_eq_true.1 h x (List.mem_of_getElem? hx)
  simp only [Bool.and_eq_true] at this
  exact ⟨inI_b this.1, inI_b this.2⟩
theorem closeS_offs {S : List (Option Fl)} (h : Offs S) (x : Int) : Offs (closeS S x).1 := by
  unfold closeS
  split
  · exact offs_none h _
  · exact h
theorem seekS_offs {S : List (Option Fl)} (h : Offs S) (x n wh z : Int) : Offs (seekS S x n wh z).1 := by
  unfold seekS
  split
  · split
    · rename_i hg
      refine offs_set h _ _ ?_
      unfold goodD at hg
      simp only [Bool.and_eq_true] at hg
      exact (okO_iff _).1 hg.2
    · exact h
  · exact h
theorem Dab.via {w w1 w2 w3 : World} {B d lb : Nat} {S : List (Option Fl)} (h : Dab w B d lb S) (hB : B ≤ w.heap.size) (k : Below w1.heap.size w1 w2) (e : w1.heap = w.heap) (e3 : w3.heap = w2.heap) : Dab w3 B d lb S :=
  ((h.any e).below k (by rw [e]; exact hB)).any e3
theorem Tab.via {w w1 w2 w3 : World} {B t : Nat} {as_ : List (Option Nat)} {S : List (Option Fl)} (h : Tab w B t as_ S) (hB : B ≤ w.heap.size) (k : Below w1.heap.size w1 w2) (e : w1.heap = w.heap) (e3 : w3.heap = w2.heap) : Tab w3 B t as_ S :=
  ((h.any e).below k (by rw [e]; exact hB)).any e3
theorem Dab.via2 {w w1 w2 w3 : World} {B d lb : Nat} {S : List (Option Fl)} {X : TypeId → Bool} (h : Dab w B d lb S) (k : Only B X w1 w2) (e : w1.heap = w.heap) (e3 : w3.heap = w2.heap) (h1 : X 58 = false) (h2 : X 61 = false) : Dab w3 B d lb S :=
  ((h.any e).kept k h1 h2).any e3
theorem Tab.via2 {w w1 w2 w3 : World} {B t : Nat} {as_ : List (Option Nat)} {S : List (Option Fl)} {X : TypeId → Bool} (h : Tab w B t as_ S) (k : Only B X w1 w2) (e : w1.heap = w.heap) (e3 : w3.heap = w2.heap) (h1 : X 52 = false) (h2 : X 44 = false) : Tab w3 B t as_ S :=
  ((h.any e).kept k h1 h2).any e3
theorem moveS_offs {S : List (Option Fl)} (h : Offs S) (x n : Int) : Offs (moveS S x n).1 := seekS_offs h x n 1 0
theorem dusers_at {w : World} {B d lb : Nat} {S : List (Option Fl)} {ino : Int} {u : Nat} (hD : Dab w B d lb S) (hu : usersTo S ino 32 = u) : Calls Try.prog 20 #[.pointer (some ⟨d, 0, none⟩), .int .i64 ino] w fun e w' => e = .returned (.int .i64 (u : Nat)) ∧ w = w' := by
  subst hu
  exact Dusers_calls ino hD
set_option maxHeartbeats 8000000 in
set_option maxRecDepth 100000 in
theorem plays_walk (A : Option Addr) (c : Nat) (l : List S37) (w : World) (hr : Kd.C k37 w A l.length l) (hc : l.length ≤ c) (hl : l.length ≤ 9223372036854775807) (hok : okL l = true) : Calls Try.prog 4 #[.slice A l.length c] w (RetPost w (.bool true)) := by
  have HR := Aside0.mk (fun (k : Nat) (x : S37) (hx : l[k]? = some x) => at37 hr hx)
  have HOK := Aside0.mk (fun (k : Nat) (x : S37) (hx : l[k]? = some x) => okL_at hok hx)
  clear hr hok
  go_enter Try.func4, Try.ntmps4
  go_wp2_with (first
    | (go_at_call 7; (with_reducible refine (New_calls _).mono ?_); rintro e w1 ⟨t, rfl, ⟨as1, T1⟩, b1⟩; have HT := Aside0.mk T1; have HB := Aside0.mk b1; clear T1 b1)
    | (go_at_call 12; (with_reducible refine (DNew_calls _).mono ?_); rintro e w2 ⟨d, lb, rfl, D2, b2⟩; have HT2 := Aside0.mk (HT.out.below b2 HB.out.size); have HB2 := Aside0.mk (bt HB.out b2); have HD2 := Aside0.mk (D2.lower HB.out.size); clear b2 D2)
    | (go_at_call 8; (with_reducible refine (alive_calls _).mono ?_); rintro e w3 ⟨rfl, b3⟩; have HT3 := Aside0.mk (HT2.out.below b3 HB2.out.size); have HD3 := Aside0.mk (HD2.out.below b3 HB2.out.size); have HB3 := Aside0.mk (bt HB2.out b3); clear b3))
  clear HT HB HT2 HB2 HD2
  go_loopw [5] (fun i wr => ∃ (k : Nat) (as_ : List (Option Nat)) (S : List (Option Fl)), k ≤ l.length ∧ i = .int .i64 k ∧ Aside0 (Tab wr w.heap.size t as_ S) ∧ Aside0 (Dab wr w.heap.size d lb S) ∧ Aside0 (Offs S) ∧ Aside0 (Below w.heap.size w wr)) (fun i _ => l.length - (intOf i).toNat)
  case atStart => exact ⟨0, _, _, by omega, rfl, HT3, HD3, ⟨offs0⟩, HB3⟩
  case round =>
    clear HT3 HD3 HB3
    obtain ⟨k, as_, S, hk, rfl, HT, HD, HO, HB⟩ := hrel
    by_cases hlt : k < l.length
    · obtain ⟨⟨f0, f1, f2, f3, f4, f5, f6⟩, hx⟩ : ∃ x, l[k]? = some x := ⟨_, List.getElem?_eq_getElem hlt⟩
      obtain ⟨b, off, rfl, hbw, hcl⟩ := HR.out k _ hx
      have hxx : (-9223372036854775808 ≤ f4 ∧ f4 ≤ 9223372036854775807) ∧ (-9223372036854775808 ≤ f6 ∧ f6 ≤ 9223372036854775807) := HOK.out k _ hx
      obtain ⟨hx4, hx6⟩ := hxx
      have y0 : wr.cell? ⟨b, off + k * 7, none⟩ = some (.int .i64 f0) := (HB.out.cell (p := ⟨b, off + k * 7, none⟩) hbw).trans (hcl 0 _ rfl)
      have y1 : wr.cell? ⟨b, off + k * 7 + 1, none⟩ = some (.int .i64 f1) := (HB.out.cell (p := ⟨b, off + k * 7 + 1, none⟩) hbw).trans (hcl 1 _ rfl)
      have y2 : wr.cell? ⟨b, off + k * 7 + 2, none⟩ = some (.int .i64 f2) := (HB.out.cell (p := ⟨b, off + k * 7 + 2, none⟩) hbw).trans (hcl 2 _ rfl)
      have y3 : wr.cell? ⟨b, off + k * 7 + 3, none⟩ = some (.int .i64 f3) := (HB.out.cell (p := ⟨b, off + k * 7 + 3, none⟩) hbw).trans (hcl 3 _ rfl)
      have y4 : wr.cell? ⟨b, off + k * 7 + 4, none⟩ = some (.int .i64 f4) := (HB.out.cell (p := ⟨b, off + k * 7 + 4, none⟩) hbw).trans (hcl 4 _ rfl)
      have y5 : wr.cell? ⟨b, off + k * 7 + 5, none⟩ = some (.int .i64 f5) := (HB.out.cell (p := ⟨b, off + k * 7 + 5, none⟩) hbw).trans (hcl 5 _ rfl)
      have y6 : wr.cell? ⟨b, off + k * 7 + 6, none⟩ = some (.int .i64 f6) := (HB.out.cell (p := ⟨b, off + k * 7 + 6, none⟩) hbw).trans (hcl 6 _ rfl)
      have HT1 : Aside0 (Tab (wr.alloc (Obj.cells #[.int .i64 f0, .int .i64 f1, .int .i64 f2, .int .i64 f3, .int .i64 f4, .int .i64 f5, .int .i64 f6] 37)) w.heap.size t as_ S) := ⟨HT.out.below (W_below wr _) HB.out.size⟩
      have HD1 : Aside0 (Dab (wr.alloc (Obj.cells #[.int .i64 f0, .int .i64 f1, .int .i64 f2, .int .i64 f3, .int .i64 f4, .int .i64 f5, .int .i64 f6] 37)) w.heap.size d lb S) := ⟨HD.out.below (W_below wr _) HB.out.size⟩
      have HB1 : Aside0 (Below w.heap.size w (wr.alloc (Obj.cells #[.int .i64 f0, .int .i64 f1, .int .i64 f2, .int .i64 f3, .int .i64 f4, .int .i64 f5, .int .i64 f6] 37))) := ⟨HB.out.trans (W_below2 wr _ HB.out.size)⟩
      have HX1 : Aside0 ((wr.alloc (Obj.cells #[.int .i64 f0, .int .i64 f1, .int .i64 f2, .int .i64 f3, .int .i64 f4, .int .i64 f5, .int .i64 f6] 37)).heap[wr.heap.size]? = some (Obj.cells #[.int .i64 f0, .int .i64 f1, .int .i64 f2, .int .i64 f3, .int .i64 f4, .int .i64 f5, .int .i64 f6] 37)) := ⟨heap_new wr _⟩
      clear hx hcl HT HD HB
      by_cases k1 : f0 = 1
      · subst k1
        have C1 := Aside0.mk (open_calls f2 f3 HT1.out HB1.out.size)
        go_wp2_with fail
        refine C1.out.mono ?_
        rintro e w3 ⟨rfl, ⟨as3, T3, F3⟩, b3⟩
        have HT3 := Aside0.mk T3
        have HD3 := Aside0.mk (HD1.out.kept b3 rfl rfl)
        have HB3 := Aside0.mk (HB1.out.trans b3.below)
        have HX3 := Aside0.mk (b3.block _ _ _ _ rfl HX1.out)
        clear T3 F3 b3 C1
        have C2 := Aside0.mk (Dopen_calls f2 f3 HD3.out)
        have z0 := cell_of HX3.out (i := 0) rfl
        have z1 := cell_of HX3.out (i := 1) rfl
        have z2 := cell_of HX3.out (i := 2) rfl
        have z3 := cell_of HX3.out (i := 3) rfl
        have z4 := cell_of HX3.out (i := 4) rfl
        have z5 := cell_of HX3.out (i := 5) rfl
        have z6 := cell_of HX3.out (i := 6) rfl
        go_wp2_with fail
        refine C2.out.mono ?_
        rintro e w4 ⟨rfl, D4, b4⟩
        have HT4 := Aside0.mk (HT3.out.kept b4 rfl rfl)
        have HD4 := Aside0.mk D4
        have HB4 := Aside0.mk (HB3.out.trans b4.below)
        have HX4 := Aside0.mk (b4.block _ _ _ _ rfl HX3.out)
        clear D4 b4 C2 HT3 HD3 HB3 HX3 z0 z1 z2 z3 z4 z5 z6 HT1 HD1 HB1 HX1
        have HO4 := Aside0.mk (openS_offs HO.out f2 f3)
        obtain ⟨S5, hS5⟩ : ∃ S5, (openS S f2 f3).1 = S5 := ⟨_, rfl⟩
        rw [hS5] at HT4 HD4 HO4
        clear hS5
        go_wp2
        have HT5 := HT4
        have HD5 := HD4
        have HB5 := HB4
        have HX5 := HX4
        have HO5 := HO4
        clear HT4 HD4 HB4 HX4 HO4
        have HU1 := Aside0.mk (fun (W' : World) (e : W'.heap = w4.heap) => users_calls (w := W') f2 (HT5.out.any e) (by rw [e]; exact HB5.out.size))
        have hbx : wr.heap.size < w4.heap.size := Only.lt HX5.out
        have hx2 := cell_of HX5.out (i := 2) rfl
        generalize hun : usersTo S5 f2 32 = un at *
        have HUN := Aside0.mk hun
        clear hun
        go_region_held3 (fun w' => w'.cell? ⟨wr.heap.size, 2, none⟩ = some (.int .i64 f2)) ((first | go_keep | (rw [HB8.out.cell (p := ⟨wr.heap.size, 2, none⟩) (by exact Nat.lt_of_lt_of_le hbx hb6.out.size)]; assumption) | (rw [hb6.out.cell (p := ⟨wr.heap.size, 2, none⟩) (by first | exact hbx | simpa using hbx)]; assumption)))
          ((first
            | (go_at_call 19; refine (HU1.out _ ?_).mono ?_; rfl; rintro e w6 ⟨rfl, hb6⟩; have hb6 := Aside0.mk hb6)
            | (go_at_call 20; refine (dusers_at (B := w.heap.size) (lb := lb) ?_ HUN.out).mono ?_; exact HD5.out.via HB5.out.size hb6.out rfl rfl; rintro e w7 ⟨rfl, rfl⟩)
            | (go_at_call 21; refine (stands_calls (B := w.heap.size) (lb := lb) (as_ := as3) (S := S5) ?_ ?_ ?_).mono ?_; exact HT5.out.via HB5.out.size hb6.out rfl rfl; exact HD5.out.via HB5.out.size hb6.out rfl rfl; exact Nat.le_trans HB5.out.size hb6.out.size; rintro e w8 ⟨rfl, hb8⟩; have HB8 := Aside0.mk hb8; have HT8 : Aside0 (Tab w8 w.heap.size t as3 S5) := ⟨(HT5.out.via (w3 := w6) HB5.out.size hb6.out rfl rfl).via (Nat.le_trans HB5.out.size hb6.out.size) hb8 rfl rfl⟩; have HD8 : Aside0 (Dab w8 w.heap.size d lb S5) := ⟨(HD5.out.via (w3 := w6) HB5.out.size hb6.out rfl rfl).via (Nat.le_trans HB5.out.size hb6.out.size) hb8 rfl rfl⟩; have HBe : Aside0 (Below w.heap.size w w8) := ⟨by first | exact (HB5.out.drew.trans (hb6.out.mono HB5.out.size)).trans (hb8.mono (Nat.le_trans HB5.out.size hb6.out.size)) | exact (HB5.out.drew.trans (hb6.out.mono HB5.out.size)).drew.trans (hb8.mono (Nat.le_trans HB5.out.size hb6.out.size)) | exact (HB5.out.trans (hb6.out.mono HB5.out.size)).trans (hb8.mono (Nat.le_trans HB5.out.size hb6.out.size))⟩; clear hb8)))
        go_wp2
        go_roundw
        case rel => exact ⟨k + 1, _, S5, by omega, by go_num, HT8, HD8, HO5, HBe⟩
        case measure => simp [intOf]; omega
      · have k1b : (f0 == 1) = false := by simpa using k1
        by_cases k2 : f0 = 2
        · subst k2
          have C1 := Aside0.mk (close_calls f1 HT1.out HB1.out.size)
          go_wp2_with fail
          refine C1.out.mono ?_
          rintro e w3 ⟨rfl, ⟨as3, T3, F3⟩, b3⟩
          have HT3 := Aside0.mk T3
          have HD3 := Aside0.mk (HD1.out.kept b3 rfl rfl)
          have HB3 := Aside0.mk (HB1.out.trans b3.below)
          have HX3 := Aside0.mk (b3.block _ _ _ _ rfl HX1.out)
          clear T3 F3 b3 C1
          have C2 := Aside0.mk (Dclose_calls f1 HD3.out HB3.out.size)
          have z0 := cell_of HX3.out (i := 0) rfl
          have z1 := cell_of HX3.out (i := 1) rfl
          have z2 := cell_of HX3.out (i := 2) rfl
          have z3 := cell_of HX3.out (i := 3) rfl
          have z4 := cell_of HX3.out (i := 4) rfl
          have z5 := cell_of HX3.out (i := 5) rfl
          have z6 := cell_of HX3.out (i := 6) rfl
          go_wp2_with fail
          refine C2.out.mono ?_
          rintro e w4 ⟨rfl, D4, b4⟩
          have HT4 := Aside0.mk (HT3.out.kept b4 rfl rfl)
          have HD4 := Aside0.mk D4
          have HB4 := Aside0.mk (HB3.out.trans b4.below)
          have HX4 := Aside0.mk (b4.block _ _ _ _ rfl HX3.out)
          clear D4 b4 C2 HT3 HD3 HB3 HX3 z0 z1 z2 z3 z4 z5 z6 HT1 HD1 HB1 HX1
          have HO4 := Aside0.mk (closeS_offs HO.out f1)
          obtain ⟨S5, hS5⟩ : ∃ S5, (closeS S f1).1 = S5 := ⟨_, rfl⟩
          rw [hS5] at HT4 HD4 HO4
          clear hS5
          go_wp2
          have HT5 := HT4
          have HD5 := HD4
          have HB5 := HB4
          have HX5 := HX4
          have HO5 := HO4
          clear HT4 HD4 HB4 HX4 HO4
          have HU1 := Aside0.mk (fun (W' : World) (e : W'.heap = w4.heap) => users_calls (w := W') f2 (HT5.out.any e) (by rw [e]; exact HB5.out.size))
          have hbx : wr.heap.size < w4.heap.size := Only.lt HX5.out
          have hx2 := cell_of HX5.out (i := 2) rfl
          generalize hun : usersTo S5 f2 32 = un at *
          have HUN := Aside0.mk hun
          clear hun
          go_region_held3 (fun w' => w'.cell? ⟨wr.heap.size, 2, none⟩ = some (.int .i64 f2)) ((first | go_keep | (rw [HB8.out.cell (p := ⟨wr.heap.size, 2, none⟩) (by exact Nat.lt_of_lt_of_le hbx hb6.out.size)]; assumption) | (rw [hb6.out.cell (p := ⟨wr.heap.size, 2, none⟩) (by first | exact hbx | simpa using hbx)]; assumption)))
            ((first
              | (go_at_call 19; refine (HU1.out _ ?_).mono ?_; rfl; rintro e w6 ⟨rfl, hb6⟩; have hb6 := Aside0.mk hb6)
              | (go_at_call 20; refine (dusers_at (B := w.heap.size) (lb := lb) ?_ HUN.out).mono ?_; exact HD5.out.via HB5.out.size hb6.out rfl rfl; rintro e w7 ⟨rfl, rfl⟩)
              | (go_at_call 21; refine (stands_calls (B := w.heap.size) (lb := lb) (as_ := as3) (S := S5) ?_ ?_ ?_).mono ?_; exact HT5.out.via HB5.out.size hb6.out rfl rfl; exact HD5.out.via HB5.out.size hb6.out rfl rfl; exact Nat.le_trans HB5.out.size hb6.out.size; rintro e w8 ⟨rfl, hb8⟩; have HB8 := Aside0.mk hb8; have HT8 : Aside0 (Tab w8 w.heap.size t as3 S5) := ⟨(HT5.out.via (w3 := w6) HB5.out.size hb6.out rfl rfl).via (Nat.le_trans HB5.out.size hb6.out.size) hb8 rfl rfl⟩; have HD8 : Aside0 (Dab w8 w.heap.size d lb S5) := ⟨(HD5.out.via (w3 := w6) HB5.out.size hb6.out rfl rfl).via (Nat.le_trans HB5.out.size hb6.out.size) hb8 rfl rfl⟩; have HBe : Aside0 (Below w.heap.size w w8) := ⟨by first | exact (HB5.out.drew.trans (hb6.out.mono HB5.out.size)).trans (hb8.mono (Nat.le_trans HB5.out.size hb6.out.size)) | exact (HB5.out.drew.trans (hb6.out.mono HB5.out.size)).drew.trans (hb8.mono (Nat.le_trans HB5.out.size hb6.out.size)) | exact (HB5.out.trans (hb6.out.mono HB5.out.size)).trans (hb8.mono (Nat.le_trans HB5.out.size hb6.out.size))⟩; clear hb8)))
          go_wp2
          go_roundw
          case rel => exact ⟨k + 1, _, S5, by omega, by go_num, HT8, HD8, HO5, HBe⟩
          case measure => simp [intOf]; omega
        · have k2b : (f0 == 2) = false := by simpa using k2
          by_cases k3 : f0 = 3
          · subst k3
            have C1 := Aside0.mk (seek_calls f1 f4 f5 f6 HT1.out HO.out hx4 hx6)
            go_wp2_with fail
            refine C1.out.mono ?_
            rintro e w3 ⟨rfl, ⟨as3, T3, F3⟩, b3⟩
            have HT3 := Aside0.mk T3
            have HD3 := Aside0.mk (HD1.out.kept b3 rfl rfl)
            have HB3 := Aside0.mk (HB1.out.trans b3.below)
            have HX3 := Aside0.mk (b3.block _ _ _ _ rfl HX1.out)
            clear T3 F3 b3 C1
            have C2 := Aside0.mk (Dseek_calls f1 f4 f5 f6 HD3.out HB3.out.size HO.out hx4 hx6)
            have z0 := cell_of HX3.out (i := 0) rfl
            have z1 := cell_of HX3.out (i := 1) rfl
            have z2 := cell_of HX3.out (i := 2) rfl
            have z3 := cell_of HX3.out (i := 3) rfl
            have z4 := cell_of HX3.out (i := 4) rfl
            have z5 := cell_of HX3.out (i := 5) rfl
            have z6 := cell_of HX3.out (i := 6) rfl
            go_wp2_with fail
            refine C2.out.mono ?_
            rintro e w4 ⟨rfl, D4, b4⟩
            have HT4 := Aside0.mk (HT3.out.kept b4 rfl rfl)
            have HD4 := Aside0.mk D4
            have HB4 := Aside0.mk (HB3.out.trans b4.below)
            have HX4 := Aside0.mk (b4.block _ _ _ _ rfl HX3.out)
            clear D4 b4 C2 HT3 HD3 HB3 HX3 z0 z1 z2 z3 z4 z5 z6 HT1 HD1 HB1 HX1
            have HO4 := Aside0.mk (seekS_offs HO.out f1 f4 f5 f6)
            obtain ⟨S5, hS5⟩ : ∃ S5, (seekS S f1 f4 f5 f6).1 = S5 := ⟨_, rfl⟩
            rw [hS5] at HT4 HD4 HO4
            clear hS5
            go_wp2
            have HT5 := HT4
            have HD5 := HD4
            have HB5 := HB4
            have HX5 := HX4
            have HO5 := HO4
            clear HT4 HD4 HB4 HX4 HO4
            have HU1 := Aside0.mk (fun (W' : World) (e : W'.heap = w4.heap) => users_calls (w := W') f2 (HT5.out.any e) (by rw [e]; exact HB5.out.size))
            have hbx : wr.heap.size < w4.heap.size := Only.lt HX5.out
            have hx2 := cell_of HX5.out (i := 2) rfl
            generalize hun : usersTo S5 f2 32 = un at *
            have HUN := Aside0.mk hun
            clear hun
            go_region_held3 (fun w' => w'.cell? ⟨wr.heap.size, 2, none⟩ = some (.int .i64 f2)) ((first | go_keep | (rw [HB8.out.cell (p := ⟨wr.heap.size, 2, none⟩) (by exact Nat.lt_of_lt_of_le hbx hb6.out.size)]; assumption) | (rw [hb6.out.cell (p := ⟨wr.heap.size, 2, none⟩) (by first | exact hbx | simpa using hbx)]; assumption)))
              ((first
                | (go_at_call 19; refine (HU1.out _ ?_).mono ?_; rfl; rintro e w6 ⟨rfl, hb6⟩; have hb6 := Aside0.mk hb6)
                | (go_at_call 20; refine (dusers_at (B := w.heap.size) (lb := lb) ?_ HUN.out).mono ?_; exact HD5.out.via HB5.out.size hb6.out rfl rfl; rintro e w7 ⟨rfl, rfl⟩)
                | (go_at_call 21; refine (stands_calls (B := w.heap.size) (lb := lb) (as_ := as3) (S := S5) ?_ ?_ ?_).mono ?_; exact HT5.out.via HB5.out.size hb6.out rfl rfl; exact HD5.out.via HB5.out.size hb6.out rfl rfl; exact Nat.le_trans HB5.out.size hb6.out.size; rintro e w8 ⟨rfl, hb8⟩; have HB8 := Aside0.mk hb8; have HT8 : Aside0 (Tab w8 w.heap.size t as3 S5) := ⟨(HT5.out.via (w3 := w6) HB5.out.size hb6.out rfl rfl).via (Nat.le_trans HB5.out.size hb6.out.size) hb8 rfl rfl⟩; have HD8 : Aside0 (Dab w8 w.heap.size d lb S5) := ⟨(HD5.out.via (w3 := w6) HB5.out.size hb6.out rfl rfl).via (Nat.le_trans HB5.out.size hb6.out.size) hb8 rfl rfl⟩; have HBe : Aside0 (Below w.heap.size w w8) := ⟨by first | exact (HB5.out.drew.trans (hb6.out.mono HB5.out.size)).trans (hb8.mono (Nat.le_trans HB5.out.size hb6.out.size)) | exact (HB5.out.drew.trans (hb6.out.mono HB5.out.size)).drew.trans (hb8.mono (Nat.le_trans HB5.out.size hb6.out.size)) | exact (HB5.out.trans (hb6.out.mono HB5.out.size)).trans (hb8.mono (Nat.le_trans HB5.out.size hb6.out.size))⟩; clear hb8)))
            go_wp2
            go_roundw
            case rel => exact ⟨k + 1, _, S5, by omega, by go_num, HT8, HD8, HO5, HBe⟩
            case measure => simp [intOf]; omega
          · have k3b : (f0 == 3) = false := by simpa using k3
            by_cases k4 : f0 = 4
            · subst k4
              have z0 := cell_of HX1.out (i := 0) rfl
              have z1 := cell_of HX1.out (i := 1) rfl
              have z2 := cell_of HX1.out (i := 2) rfl
              have z3 := cell_of HX1.out (i := 3) rfl
              have z4 := cell_of HX1.out (i := 4) rfl
              have z5 := cell_of HX1.out (i := 5) rfl
              have z6 := cell_of HX1.out (i := 6) rfl
              go_wp2
              obtain ⟨W1, hW1⟩ : ∃ W1, wr.alloc (Obj.cells #[.int .i64 4, .int .i64 f1, .int .i64 f2, .int .i64 f3, .int .i64 f4, .int .i64 f5, .int .i64 f6] 37) = W1 := ⟨_, rfl⟩
              rw [hW1] at HT1 HD1 HB1 HX1 ⊢
              clear z0 z1 z2 z3 z4 z5 z6
              clear hW1
              have C1 := Aside0.mk (fun (W' : World) (e : W'.heap = W1.heap) => move_calls (w := W') f1 f4 (HT1.out.any e) HO.out)
              have hq1 := cell_of HX1.out (i := 1) rfl
              have hq4 := cell_of HX1.out (i := 4) rfl
              have HO4 := Aside0.mk (moveS_offs HO.out f1 f4)
              go_region_held3 (fun w' => w'.cell? ⟨wr.heap.size, 1, none⟩ = some (.int .i64 f1) ∧ w'.cell? ⟨wr.heap.size, 4, none⟩ = some (.int .i64 f4)) ((first | go_keep | exact ⟨cell_of HX4.out (i := 1) rfl, cell_of HX4.out (i := 4) rfl⟩ | exact ⟨cell_of HX3.out (i := 1) rfl, cell_of HX3.out (i := 4) rfl⟩))
                ((first
                  | (go_at_call 17; refine (C1.out _ ?_).mono ?_; rfl; rintro e w3 ⟨rfl, ⟨as3, T3, F3⟩, b3⟩; have HT3 := Aside0.mk T3; have HD3 : Aside0 (Dab w3 w.heap.size d lb S) := ⟨HD1.out.via2 b3 rfl rfl rfl rfl⟩; have HB3 : Aside0 (Below w.heap.size w w3) := ⟨by first | exact HB1.out.trans b3.below | exact HB1.out.drew.trans b3.below⟩; have HX3 : Aside0 (w3.heap[wr.heap.size]? = some (Obj.cells #[.int .i64 4, .int .i64 f1, .int .i64 f2, .int .i64 f3, .int .i64 f4, .int .i64 f5, .int .i64 f6] 37)) := ⟨b3.block _ _ _ _ rfl HX1.out⟩; clear T3 F3 b3)
                  | (go_at_call 18; refine (Dmove_calls (B := w.heap.size) (lb := lb) (S := S) f1 f4 ?_ ?_ HO.out hx4).mono ?_; exact HD3.out.any rfl; exact HB3.out.size; rintro e w4 ⟨rfl, D4, b4⟩; have HT4 : Aside0 (Tab w4 w.heap.size t as3 (moveS S f1 f4).1) := ⟨HT3.out.via2 b4 rfl rfl rfl rfl⟩; have HD4 := Aside0.mk D4; have HB4 : Aside0 (Below w.heap.size w w4) := ⟨by first | exact HB3.out.trans b4.below | exact HB3.out.drew.trans b4.below⟩; have HX4 : Aside0 (w4.heap[wr.heap.size]? = some (Obj.cells #[.int .i64 4, .int .i64 f1, .int .i64 f2, .int .i64 f3, .int .i64 f4, .int .i64 f5, .int .i64 f6] 37)) := ⟨b4.block _ _ _ _ rfl HX3.out⟩; clear D4 b4)))
              clear C1 HT1 HD1 HB1 HX1 HT3 HD3 HB3 HX3 hq1 hq4
              obtain ⟨S5, hS5⟩ : ∃ S5, (moveS S f1 f4).1 = S5 := ⟨_, rfl⟩
              rw [hS5] at HT4 HD4 HO4
              clear hS5
              go_wp2
              have HT5 := HT4
              have HD5 := HD4
              have HB5 := HB4
              have HX5 := HX4
              have HO5 := HO4
              clear HT4 HD4 HB4 HX4 HO4
              have HU1 := Aside0.mk (fun (W' : World) (e : W'.heap = w4.heap) => users_calls (w := W') f2 (HT5.out.any e) (by rw [e]; exact HB5.out.size))
              have hbx : wr.heap.size < w4.heap.size := Only.lt HX5.out
              have hx2 := cell_of HX5.out (i := 2) rfl
              generalize hun : usersTo S5 f2 32 = un at *
              have HUN := Aside0.mk hun
              clear hun
              go_region_held3 (fun w' => w'.cell? ⟨wr.heap.size, 2, none⟩ = some (.int .i64 f2)) ((first | go_keep | (rw [HB8.out.cell (p := ⟨wr.heap.size, 2, none⟩) (by exact Nat.lt_of_lt_of_le hbx hb6.out.size)]; assumption) | (rw [hb6.out.cell (p := ⟨wr.heap.size, 2, none⟩) (by first | exact hbx | simpa using hbx)]; assumption)))
                ((first
                  | (go_at_call 19; refine (HU1.out _ ?_).mono ?_; rfl; rintro e w6 ⟨rfl, hb6⟩; have hb6 := Aside0.mk hb6)
                  | (go_at_call 20; refine (dusers_at (B := w.heap.size) (lb := lb) ?_ HUN.out).mono ?_; exact HD5.out.via HB5.out.size hb6.out rfl rfl; rintro e w7 ⟨rfl, rfl⟩)
                  | (go_at_call 21; refine (stands_calls (B := w.heap.size) (lb := lb) (as_ := as3) (S := S5) ?_ ?_ ?_).mono ?_; exact HT5.out.via HB5.out.size hb6.out rfl rfl; exact HD5.out.via HB5.out.size hb6.out rfl rfl; exact Nat.le_trans HB5.out.size hb6.out.size; rintro e w8 ⟨rfl, hb8⟩; have HB8 := Aside0.mk hb8; have HT8 : Aside0 (Tab w8 w.heap.size t as3 S5) := ⟨(HT5.out.via (w3 := w6) HB5.out.size hb6.out rfl rfl).via (Nat.le_trans HB5.out.size hb6.out.size) hb8 rfl rfl⟩; have HD8 : Aside0 (Dab w8 w.heap.size d lb S5) := ⟨(HD5.out.via (w3 := w6) HB5.out.size hb6.out rfl rfl).via (Nat.le_trans HB5.out.size hb6.out.size) hb8 rfl rfl⟩; have HBe : Aside0 (Below w.heap.size w w8) := ⟨by first | exact (HB5.out.drew.trans (hb6.out.mono HB5.out.size)).trans (hb8.mono (Nat.le_trans HB5.out.size hb6.out.size)) | exact (HB5.out.drew.trans (hb6.out.mono HB5.out.size)).drew.trans (hb8.mono (Nat.le_trans HB5.out.size hb6.out.size)) | exact (HB5.out.trans (hb6.out.mono HB5.out.size)).trans (hb8.mono (Nat.le_trans HB5.out.size hb6.out.size))⟩; clear hb8)))
              go_wp2
              go_roundw
              case rel => exact ⟨k + 1, _, S5, by omega, by go_num, HT8, HD8, HO5, HBe⟩
              case measure => simp [intOf]; omega
            · have k4b : (f0 == 4) = false := by simpa using k4
              have z0 := cell_of HX1.out (i := 0) rfl
              have z1 := cell_of HX1.out (i := 1) rfl
              have z2 := cell_of HX1.out (i := 2) rfl
              have z3 := cell_of HX1.out (i := 3) rfl
              have z4 := cell_of HX1.out (i := 4) rfl
              have z5 := cell_of HX1.out (i := 5) rfl
              have z6 := cell_of HX1.out (i := 6) rfl
              go_wp2
              obtain ⟨W1, hW1⟩ : ∃ W1, wr.alloc (Obj.cells #[.int .i64 f0, .int .i64 f1, .int .i64 f2, .int .i64 f3, .int .i64 f4, .int .i64 f5, .int .i64 f6] 37) = W1 := ⟨_, rfl⟩
              rw [hW1] at HT1 HD1 HB1 HX1 ⊢
              clear z0 z1 z2 z3 z4 z5 z6
              clear hW1
              have HT5 := HT1
              have HD5 := HD1
              have HB5 := HB1
              have HX5 := HX1
              obtain ⟨S5, hS5⟩ : ∃ S5, S = S5 := ⟨_, rfl⟩
              rw [hS5] at HT5 HD5 HO
              have HO5 := HO
              clear HT1 HD1 HB1 HX1 HO hS5
              have HU1 := Aside0.mk (fun (W' : World) (e : W'.heap = W1.heap) => users_calls (w := W') f2 (HT5.out.any e) (by rw [e]; exact HB5.out.size))
              have hbx : wr.heap.size < W1.heap.size := Only.lt HX5.out
              have hx2 := cell_of HX5.out (i := 2) rfl
              generalize hun : usersTo S5 f2 32 = un at *
              have HUN := Aside0.mk hun
              clear hun
              go_region_held3 (fun w' => w'.cell? ⟨wr.heap.size, 2, none⟩ = some (.int .i64 f2)) ((first | go_keep | (rw [HB8.out.cell (p := ⟨wr.heap.size, 2, none⟩) (by exact Nat.lt_of_lt_of_le hbx hb6.out.size)]; assumption) | (rw [hb6.out.cell (p := ⟨wr.heap.size, 2, none⟩) (by first | exact hbx | simpa using hbx)]; assumption)))
                ((first
                  | (go_at_call 19; refine (HU1.out _ ?_).mono ?_; rfl; rintro e w6 ⟨rfl, hb6⟩; have hb6 := Aside0.mk hb6)
                  | (go_at_call 20; refine (dusers_at (B := w.heap.size) (lb := lb) ?_ HUN.out).mono ?_; exact HD5.out.via HB5.out.size hb6.out rfl rfl; rintro e w7 ⟨rfl, rfl⟩)
                  | (go_at_call 21; refine (stands_calls (B := w.heap.size) (lb := lb) (as_ := as_) (S := S5) ?_ ?_ ?_).mono ?_; exact HT5.out.via HB5.out.size hb6.out rfl rfl; exact HD5.out.via HB5.out.size hb6.out rfl rfl; exact Nat.le_trans HB5.out.size hb6.out.size; rintro e w8 ⟨rfl, hb8⟩; have HB8 := Aside0.mk hb8; have HT8 : Aside0 (Tab w8 w.heap.size t as_ S5) := ⟨(HT5.out.via (w3 := w6) HB5.out.size hb6.out rfl rfl).via (Nat.le_trans HB5.out.size hb6.out.size) hb8 rfl rfl⟩; have HD8 : Aside0 (Dab w8 w.heap.size d lb S5) := ⟨(HD5.out.via (w3 := w6) HB5.out.size hb6.out rfl rfl).via (Nat.le_trans HB5.out.size hb6.out.size) hb8 rfl rfl⟩; have HBe : Aside0 (Below w.heap.size w w8) := ⟨by first | exact (HB5.out.drew.trans (hb6.out.mono HB5.out.size)).trans (hb8.mono (Nat.le_trans HB5.out.size hb6.out.size)) | exact (HB5.out.drew.trans (hb6.out.mono HB5.out.size)).drew.trans (hb8.mono (Nat.le_trans HB5.out.size hb6.out.size)) | exact (HB5.out.trans (hb6.out.mono HB5.out.size)).trans (hb8.mono (Nat.le_trans HB5.out.size hb6.out.size))⟩; clear hb8)))
              go_wp2
              go_roundw
              case rel => exact ⟨k + 1, _, S5, by omega, by go_num, HT8, HD8, HO5, HBe⟩
              case measure => simp [intOf]; omega
    · obtain rfl : k = l.length := by omega
      go_wp2
      go_ret
      exact ⟨rfl, HB.out⟩
end Go.Proofs.Ytgjajdejjiiocaa.Q
