/- HandlesApart, walked. -/
import Derived.Test.YtgjajdejjiiocaaA2
import Derived.Test.YtgjajdejjiiocaaK0
namespace Go.Proofs.Ytgjajdejjiiocaa.Q
open Go.RowKit Go.Proofs.YtgjajdejjiiocaaW.PrintWords Go.Proofs.YtgjajdejjiiocaaW.PrintLast Go.Proofs.Ytgjajdejjiiocaa.Sep
set_option linter.unusedVariables false
set_option linter.unusedSimpArgs false
theorem get_at {w : World} {B t : Nat} {as_ : List (Option Nat)} {S : List (Option Fl)} (h : Int) {f : Fl} {e : Int} (hT : Tab w B t as_ S) (hg : getS S h = (f, e)) : Calls Try.prog 22 #[.pointer (some ⟨t, 0, none⟩), .int .i64 h] w (RetPost w (.tuple #[aggF f, .int .i64 e])) := by
  have := Get_calls h hT
  rw [hg] at this
  exact this
theorem W_below (w : World) (o : Obj) : Below w.heap.size w (w.alloc o) := (Below.refl _ _).alloc (Nat.le_refl _) o
theorem W_below2 {B : Nat} (w : World) (o : Obj) (h : B ≤ w.heap.size) : Below B w (w.alloc o) := (Below.refl _ _).alloc h o
def inI (n : Int) : Bool := decide (-9223372036854775808 ≤ n) && decide (n ≤ 9223372036854775807)
theorem inI_b {n : Int} (h : inI n = true) : -9223372036854775808 ≤ n ∧ n ≤ 9223372036854775807 := by unfold inI at h; simpa using h
def okL (l : List S37) : Bool := l.all fun x => inI x.f4 && inI x.f6
theorem okL_at {l : List S37} (h : okL l = true) {k : Nat} {x : S37} (hx : l[k]? = some x) : (-9223372036854775808 ≤ x.f4 ∧ x.f4 ≤ 9223372036854775807) ∧ (-9223372036854775808 ≤ x.f6 ∧ x.f6 ≤ 9223372036854775807) := by
  have := List.all_eq_true.1 h x (List.mem_of_getElem? hx)
  simp only [Bool.and_eq_true] at this
  exact ⟨inI_b this.1, inI_b this.2⟩
set_option maxHeartbeats 8000000 in
set_option maxRecDepth 100000 in
theorem apart_walk (ino fl : Int) (A : Option Addr) (c : Nat) (l : List S37) (w : World) (hr : Kd.C k37 w A l.length l) (hc : l.length ≤ c) (hl : l.length ≤ 9223372036854775807) (hok : okL l = true) : Calls Try.prog 5 #[.int .i64 ino, .int .i64 fl, .slice A l.length c] w (RetPost w (.bool true)) := by
  have HR := Aside0.mk (fun (k : Nat) (x : S37) (hx : l[k]? = some x) => at37 hr hx)
  have HOK := Aside0.mk (fun (k : Nat) (x : S37) (hx : l[k]? = some x) => okL_at hok hx)
  clear hr hok
  go_enter Try.func5, Try.ntmps5
  go_wp2_with (first
    | (go_at_call 7; (with_reducible refine (New_calls _).mono ?_); rintro e w1 ⟨t, rfl, ⟨as1, T1⟩, b1⟩; have HT := Aside0.mk T1; have HB := Aside0.mk b1; clear T1 b1)
    | (go_at_call 8; (with_reducible refine (alive_calls _).mono ?_); rintro e w2 ⟨rfl, b2⟩; have HT2 := Aside0.mk (HT.out.below b2 HB.out.size); have HB2 := Aside0.mk (bt HB.out b2); clear b2))
  clear HT HB
  rcases two_opens ino fl with h0 | ⟨Sa, h1, Sb, h2, hTwo⟩
  · have C := Aside0.mk (fun (w' : World) (as_ : List (Option Nat)) (hT : Tab w' w.heap.size t as_ S0) (hB : w.heap.size ≤ w'.heap.size) => (open_calls ino fl hT hB).mono (fun e w'' h' => TabPost.at_ h' (S' := S0) (v' := .tuple #[.int .i64 0, .int .i64 22]) (by rw [h0]) (by rw [h0])))
    clear h0
    refine (C.out _ _ HT2.out HB2.out.size).mono ?_
    rintro e w3 ⟨rfl, ⟨as3, T3, _⟩, b3⟩
    have HT3 := Aside0.mk T3
    have HB3 := Aside0.mk (HB2.out.trans b3.below)
    clear T3 b3
    go_wp2_with fail
    refine (C.out _ _ HT3.out HB3.out.size).mono ?_
    rintro e w4 ⟨rfl, ⟨as4, T4, _⟩, b4⟩
    have HB4 := Aside0.mk (HB3.out.trans b4.below)
    clear T4 b4
    go_wp2
    go_ret
    exact ⟨rfl, HB4.out⟩
  · have C1 := Aside0.mk ((open_calls ino fl HT2.out HB2.out.size).mono (fun e w'' h' => TabPost.at_ h' (S' := Sa) (v' := .tuple #[.int .i64 0, .int .i64 0]) (by rw [h1]) (by rw [h1])))
    have C2 := Aside0.mk (fun (w' : World) (as_ : List (Option Nat)) (hT : Tab w' w.heap.size t as_ Sa) (hB : w.heap.size ≤ w'.heap.size) => (open_calls ino fl hT hB).mono (fun e w'' h' => TabPost.at_ h' (S' := Sb) (v' := .tuple #[.int .i64 1, .int .i64 0]) (by rw [h2]) (by rw [h2])))
    clear h1 h2
    refine C1.out.mono ?_
    rintro e w3 ⟨rfl, ⟨as3, T3, _⟩, b3⟩
    have HT3 := Aside0.mk T3
    have HB3 := Aside0.mk (HB2.out.trans b3.below)
    clear T3 b3
    go_wp2_with fail
    refine (C2.out _ _ HT3.out HB3.out.size).mono ?_
    rintro e w4 ⟨rfl, ⟨as4, T4, _⟩, b4⟩
    have HT4 := Aside0.mk T4
    have HB4 := Aside0.mk (HB3.out.trans b4.below)
    clear T4 b4 C1 C2 HT2 HB2 HT3 HB3
    have G0 := Aside0.mk (get_at 0 HT4.out hTwo.get0)
    have H2 := Aside0.mk hTwo
    clear hTwo
    go_wp2_with fail
    refine G0.out.mono ?_
    rintro e w5 ⟨rfl, hb5⟩
    have HT5 := Aside0.mk ((HT4.out.below hb5 HB4.out.size).below (W_below w5 (Cl (fcells (ino, fl, 0)) 44)) (Nat.le_trans HB4.out.size hb5.size))
    have HB5 := Aside0.mk ((bt HB4.out hb5).trans (W_below2 w5 (Cl (fcells (ino, fl, 0)) 44) (bt HB4.out hb5).size))
    have HW5 := Aside0.mk (heap_new w5 (Cl (fcells (ino, fl, 0)) 44))
    have HA5 : Away t as4 w5.heap.size := by
      have h5 := HT4.out.below hb5 HB4.out.size
      refine ⟨fun e => ?_, fun i hi => ?_⟩
      · have := Only.lt h5.blk; omega
      · obtain ⟨_, f, _, hc⟩ := h5.file i _ hi
        have := Only.lt hc
        omega
    have HWA := Aside0.mk (And.intro HW5.out HA5)
    clear hb5 HT4 HB4 G0 HW5 HA5
    obtain ⟨wb, hwb⟩ : ∃ wb, w5.heap.size = wb := ⟨_, rfl⟩
    rw [hwb] at HWA
    unfold aggF
    unfold fcells at HT5 HB5 HWA ⊢
    go_wp2
    try rw [hwb]
    clear hwb
    go_loopw [14] (fun i wr => ∃ (k : Nat) (as_ : List (Option Nat)) (S : List (Option Fl)), k ≤ l.length ∧ i = .int .i64 k ∧ Aside0 (Tab wr w.heap.size t as_ S) ∧ Aside0 (Two S ino fl) ∧ Aside0 (Below w.heap.size w wr) ∧ Aside0 (wr.heap[wb]? = some (Cl [.int .i64 ino, .int .i64 fl, .int .i64 0] 44) ∧ Away t as_ wb)) (fun i _ => l.length - (intOf i).toNat)
    case atStart => exact ⟨0, _, _, by omega, rfl, HT5, H2, HB5, HWA⟩
    case round =>
      clear HT5 H2 HB5 HWA
      obtain ⟨k, as_, S, hk, rfl, HT, H2o, HB, HW⟩ := hrel
      by_cases hlt : k < l.length
      · obtain ⟨⟨f0, f1, f2, f3, f4, f5, f6⟩, hx⟩ : ∃ x, l[k]? = some x := ⟨_, List.getElem?_eq_getElem hlt⟩
        obtain ⟨b, off, rfl, hbw, hcl⟩ := HR.out k _ hx
        have hxx : (-9223372036854775808 ≤ f4 ∧ f4 ≤ 9223372036854775807) ∧ (-9223372036854775808 ≤ f6 ∧ f6 ≤ 9223372036854775807) := HOK.out k _ hx
        obtain ⟨hx4, hx6⟩ := hxx
        have y0 : wr.cell? ⟨b, off + k * 7, none⟩ = some (.int .i64 f0) := (HB.out.cell (p := ⟨b, off + k * 7, none⟩) hbw).trans (hcl 0 _ rfl)
        have y1 : wr.cell? ⟨b, off + k * 7 + 1, none⟩ = some (.int .i64 f1) := (HB.out.cell (p := ⟨b, off + k * 7 + 1, none⟩) hbw).trans (hcl 1 _ rfl)
        have y2 : wr.cell? ⟨b, off + k * 7 + 2, none⟩ = some (.int .i64 f2) := (HB.out.cell (p := ⟨b, off + k * 7 + 2, none⟩) hbw).trans (hcl 2 _ rfl)
        have y3 : wr.cell? ⟨b, off + k * 7 + 3, none⟩ = some (.int .i64 f3) := (HB.out.cell (p := ⟨b, off + k * 7 + 3, none⟩) hbw).trans (hcl 3 _ rfl)
        have y4 : wr.cell? ⟨b, off + k * 7 + 4, none⟩ = some (.int .i64 f4) := (HB.out.cell (p := ⟨b, off + k * 7 + 4, none⟩) hbw).trans (hcl 4 _ rfl)
        have y5 : wr.cell? ⟨b, off + k * 7 + 5, none⟩ = some (.int .i64 f5) := (HB.out.cell (p := ⟨b, off + k * 7 + 5, none⟩) hbw).trans (hcl 5 _ rfl)
        have y6 : wr.cell? ⟨b, off + k * 7 + 6, none⟩ = some (.int .i64 f6) := (HB.out.cell (p := ⟨b, off + k * 7 + 6, none⟩) hbw).trans (hcl 6 _ rfl)
        have HT1 : Aside0 (Tab (wr.alloc (Obj.cells #[.int .i64 f0, .int .i64 f1, .int .i64 f2, .int .i64 f3, .int .i64 f4, .int .i64 f5, .int .i64 f6] 37)) w.heap.size t as_ S) := ⟨HT.out.below (W_below wr _) HB.out.size⟩
        have HB1 : Aside0 (Below w.heap.size w (wr.alloc (Obj.cells #[.int .i64 f0, .int .i64 f1, .int .i64 f2, .int .i64 f3, .int .i64 f4, .int .i64 f5, .int .i64 f6] 37))) := ⟨HB.out.trans (W_below2 wr _ HB.out.size)⟩
        have HW1 : Aside0 ((wr.alloc (Obj.cells #[.int .i64 f0, .int .i64 f1, .int .i64 f2, .int .i64 f3, .int .i64 f4, .int .i64 f5, .int .i64 f6] 37)).heap[wb]? = some (Cl [.int .i64 ino, .int .i64 fl, .int .i64 0] 44) ∧ Away t as_ wb) := ⟨heap_old _ HW.out.1, HW.out.2⟩
        clear hx hcl HT HB HW
        by_cases k3 : f0 = 3
        · subst k3
          have C := Aside0.mk (seek_calls 1 f4 f5 f6 HT1.out H2o.out.2.1 hx4 hx6)
          go_wp2_with fail
          refine C.out.mono ?_
          rintro e w3 ⟨rfl, ⟨as3, T3, F3⟩, b3⟩
          obtain ⟨S3, hS3⟩ : ∃ S3, (seekS S 1 f4 f5 f6).1 = S3 := ⟨_, rfl⟩
          rw [hS3] at T3
          have H2 := Aside0.mk (hS3 ▸ H2o.out.sought f4 f5 f6)
          have HT3 := Aside0.mk T3
          have HB3 := Aside0.mk (HB1.out.trans b3.below)
          have HW3 := Aside0.mk (F3 _ _ HW1.out.1 HW1.out.2)
          clear T3 F3 b3 hS3 C HT1 HB1 HW1
          have G0 := Aside0.mk (get_at (w := w3) 0 HT3.out H2.out.get0)
          go_wp2_with fail
          refine G0.out.mono ?_
          rintro e w4 ⟨rfl, hb4⟩
          have HT4 := Aside0.mk ((HT3.out.below hb4 HB3.out.size).below (W_below w4 (Cl (fcells (ino, fl, 0)) 44)) (Nat.le_trans HB3.out.size hb4.size))
          have HB4 := Aside0.mk ((bt HB3.out hb4).trans (W_below2 w4 (Cl (fcells (ino, fl, 0)) 44) (bt HB3.out hb4).size))
          have HW4 := Aside0.mk (heap_old (Cl (fcells (ino, fl, 0)) 44) ((hb4.block _ (Only.lt HW3.out.1)).trans HW3.out.1))
          have HN4 := Aside0.mk (heap_new w4 (Cl (fcells (ino, fl, 0)) 44))
          have HA4 := Aside0.mk HW3.out.2
          clear hb4 HT3 HB3 HW3 G0
          obtain ⟨o, ho1, ho2, hgo⟩ := H2.out.get1
          have G1 := Aside0.mk (get_at 1 HT4.out hgo)
          clear hgo
          unfold fcells at HT4 HB4 HW4 HN4 G1
          unfold aggF fcells
          go_wp2_with fail
          refine G1.out.mono ?_
          rintro e w5 ⟨rfl, hb5⟩
          have HT5 := Aside0.mk ((HT4.out.below hb5 HB4.out.size).below (W_below w5 (Cl (fcells (ino, fl, o)) 44)) (Nat.le_trans HB4.out.size hb5.size))
          have HB5 := Aside0.mk ((bt HB4.out hb5).trans (W_below2 w5 (Cl (fcells (ino, fl, o)) 44) (bt HB4.out hb5).size))
          have HW5 := Aside0.mk (heap_old (Cl (fcells (ino, fl, o)) 44) ((hb5.block _ (Only.lt HW4.out)).trans HW4.out))
          have HN5 := Aside0.mk (heap_old (Cl (fcells (ino, fl, o)) 44) ((hb5.block _ (Only.lt HN4.out)).trans HN4.out))
          have HX5 := Aside0.mk (heap_new w5 (Cl (fcells (ino, fl, o)) 44))
          clear hb5 HT4 HB4 HW4 HN4 G1
          have q0 := cell_of HW5.out (i := 0) rfl
          have q1 := cell_of HW5.out (i := 1) rfl
          have q2 := cell_of HW5.out (i := 2) rfl
          have n0 := cell_of HN5.out (i := 0) rfl
          have n1 := cell_of HN5.out (i := 1) rfl
          have n2 := cell_of HN5.out (i := 2) rfl
          have x2 := cell_of HX5.out (i := 2) rfl
          have HU := Aside0.mk (users_calls ino HT5.out HB5.out.size)
          have hu2 := H2.out.users
          have hlt : ¬ ((usersTo S3 ino 32 : Nat) : Int) < 2 := by omega
          clear hu2
          generalize usersTo S3 ino 32 = un at *
          unfold fcells at q0 q1 q2 n0 n1 n2 x2 HT5 HB5 HW5 HU
          unfold aggF fcells
          have o1 : ¬ o < 0 := by omega
          have o2 : ¬ o > 16384 := by omega
          go_wp2_with (go_at_call 19; (with_reducible refine HU.out.mono ?_); rintro e w6 ⟨rfl, hb6⟩; have HT6 := Aside0.mk (HT5.out.below hb6 HB5.out.size); have HB6 := Aside0.mk (bt HB5.out hb6); have HW6 := Aside0.mk (And.intro ((hb6.block _ (Only.lt HW5.out)).trans HW5.out) HA4.out); clear hb6)
          go_roundw
          case rel => exact ⟨k + 1, _, S3, by omega, by go_num, HT6, H2, HB6, HW6⟩
          case measure => simp [intOf]; omega
        · have k3b : (f0 == 3) = false := by simpa using k3
          by_cases k4 : f0 = 4
          · subst k4
            have C := Aside0.mk (move_calls 1 f4 HT1.out H2o.out.2.1)
            go_wp2_with fail
            refine C.out.mono ?_
            rintro e w3 ⟨rfl, ⟨as3, T3, F3⟩, b3⟩
            obtain ⟨S3, hS3⟩ : ∃ S3, (moveS S 1 f4).1 = S3 := ⟨_, rfl⟩
            rw [hS3] at T3
            have H2 := Aside0.mk (hS3 ▸ H2o.out.moved f4)
            have HT3 := Aside0.mk T3
            have HB3 := Aside0.mk (HB1.out.trans b3.below)
            have HW3 := Aside0.mk (F3 _ _ HW1.out.1 HW1.out.2)
            clear T3 F3 b3 hS3 C HT1 HB1 HW1
            have G0 := Aside0.mk (get_at (w := w3) 0 HT3.out H2.out.get0)
            go_wp2_with fail
            refine G0.out.mono ?_
            rintro e w4 ⟨rfl, hb4⟩
            have HT4 := Aside0.mk ((HT3.out.below hb4 HB3.out.size).below (W_below w4 (Cl (fcells (ino, fl, 0)) 44)) (Nat.le_trans HB3.out.size hb4.size))
            have HB4 := Aside0.mk ((bt HB3.out hb4).trans (W_below2 w4 (Cl (fcells (ino, fl, 0)) 44) (bt HB3.out hb4).size))
            have HW4 := Aside0.mk (heap_old (Cl (fcells (ino, fl, 0)) 44) ((hb4.block _ (Only.lt HW3.out.1)).trans HW3.out.1))
            have HN4 := Aside0.mk (heap_new w4 (Cl (fcells (ino, fl, 0)) 44))
            have HA4 := Aside0.mk HW3.out.2
            clear hb4 HT3 HB3 HW3 G0
            obtain ⟨o, ho1, ho2, hgo⟩ := H2.out.get1
            have G1 := Aside0.mk (get_at 1 HT4.out hgo)
            clear hgo
            unfold fcells at HT4 HB4 HW4 HN4 G1
            unfold aggF fcells
            go_wp2_with fail
            refine G1.out.mono ?_
            rintro e w5 ⟨rfl, hb5⟩
            have HT5 := Aside0.mk ((HT4.out.below hb5 HB4.out.size).below (W_below w5 (Cl (fcells (ino, fl, o)) 44)) (Nat.le_trans HB4.out.size hb5.size))
            have HB5 := Aside0.mk ((bt HB4.out hb5).trans (W_below2 w5 (Cl (fcells (ino, fl, o)) 44) (bt HB4.out hb5).size))
            have HW5 := Aside0.mk (heap_old (Cl (fcells (ino, fl, o)) 44) ((hb5.block _ (Only.lt HW4.out)).trans HW4.out))
            have HN5 := Aside0.mk (heap_old (Cl (fcells (ino, fl, o)) 44) ((hb5.block _ (Only.lt HN4.out)).trans HN4.out))
            have HX5 := Aside0.mk (heap_new w5 (Cl (fcells (ino, fl, o)) 44))
            clear hb5 HT4 HB4 HW4 HN4 G1
            have q0 := cell_of HW5.out (i := 0) rfl
            have q1 := cell_of HW5.out (i := 1) rfl
            have q2 := cell_of HW5.out (i := 2) rfl
            have n0 := cell_of HN5.out (i := 0) rfl
            have n1 := cell_of HN5.out (i := 1) rfl
            have n2 := cell_of HN5.out (i := 2) rfl
            have x2 := cell_of HX5.out (i := 2) rfl
            have HU := Aside0.mk (users_calls ino HT5.out HB5.out.size)
            have hu2 := H2.out.users
            have hlt : ¬ ((usersTo S3 ino 32 : Nat) : Int) < 2 := by omega
            clear hu2
            generalize usersTo S3 ino 32 = un at *
            unfold fcells at q0 q1 q2 n0 n1 n2 x2 HT5 HB5 HW5 HU
            unfold aggF fcells
            have o1 : ¬ o < 0 := by omega
            have o2 : ¬ o > 16384 := by omega
            go_wp2_with (go_at_call 19; (with_reducible refine HU.out.mono ?_); rintro e w6 ⟨rfl, hb6⟩; have HT6 := Aside0.mk (HT5.out.below hb6 HB5.out.size); have HB6 := Aside0.mk (bt HB5.out hb6); have HW6 := Aside0.mk (And.intro ((hb6.block _ (Only.lt HW5.out)).trans HW5.out) HA4.out); clear hb6)
            go_roundw
            case rel => exact ⟨k + 1, _, S3, by omega, by go_num, HT6, H2, HB6, HW6⟩
            case measure => simp [intOf]; omega
          · have k4b : (f0 == 4) = false := by simpa using k4
            by_cases k1 : f0 = 1
            · subst k1
              have C := Aside0.mk (open_calls f2 f3 HT1.out HB1.out.size)
              go_wp2_with fail
              refine C.out.mono ?_
              rintro e w3 ⟨rfl, ⟨as3, T3, F3⟩, b3⟩
              obtain ⟨S3, hS3⟩ : ∃ S3, (openS S f2 f3).1 = S3 := ⟨_, rfl⟩
              rw [hS3] at T3
              have H2 := Aside0.mk (hS3 ▸ H2o.out.opened f2 f3)
              have HT3 := Aside0.mk T3
              have HB3 := Aside0.mk (HB1.out.trans b3.below)
              have HW3 := Aside0.mk (F3 _ _ HW1.out.1 HW1.out.2)
              clear T3 F3 b3 hS3 C HT1 HB1 HW1
              have G0 := Aside0.mk (get_at (w := w3) 0 HT3.out H2.out.get0)
              go_wp2_with fail
              refine G0.out.mono ?_
              rintro e w4 ⟨rfl, hb4⟩
              have HT4 := Aside0.mk ((HT3.out.below hb4 HB3.out.size).below (W_below w4 (Cl (fcells (ino, fl, 0)) 44)) (Nat.le_trans HB3.out.size hb4.size))
              have HB4 := Aside0.mk ((bt HB3.out hb4).trans (W_below2 w4 (Cl (fcells (ino, fl, 0)) 44) (bt HB3.out hb4).size))
              have HW4 := Aside0.mk (heap_old (Cl (fcells (ino, fl, 0)) 44) ((hb4.block _ (Only.lt HW3.out.1)).trans HW3.out.1))
              have HN4 := Aside0.mk (heap_new w4 (Cl (fcells (ino, fl, 0)) 44))
              have HA4 := Aside0.mk HW3.out.2
              clear hb4 HT3 HB3 HW3 G0
              obtain ⟨o, ho1, ho2, hgo⟩ := H2.out.get1
              have G1 := Aside0.mk (get_at 1 HT4.out hgo)
              clear hgo
              unfold fcells at HT4 HB4 HW4 HN4 G1
              unfold aggF fcells
              go_wp2_with fail
              refine G1.out.mono ?_
              rintro e w5 ⟨rfl, hb5⟩
              have HT5 := Aside0.mk ((HT4.out.below hb5 HB4.out.size).below (W_below w5 (Cl (fcells (ino, fl, o)) 44)) (Nat.le_trans HB4.out.size hb5.size))
              have HB5 := Aside0.mk ((bt HB4.out hb5).trans (W_below2 w5 (Cl (fcells (ino, fl, o)) 44) (bt HB4.out hb5).size))
              have HW5 := Aside0.mk (heap_old (Cl (fcells (ino, fl, o)) 44) ((hb5.block _ (Only.lt HW4.out)).trans HW4.out))
              have HN5 := Aside0.mk (heap_old (Cl (fcells (ino, fl, o)) 44) ((hb5.block _ (Only.lt HN4.out)).trans HN4.out))
              have HX5 := Aside0.mk (heap_new w5 (Cl (fcells (ino, fl, o)) 44))
              clear hb5 HT4 HB4 HW4 HN4 G1
              have q0 := cell_of HW5.out (i := 0) rfl
              have q1 := cell_of HW5.out (i := 1) rfl
              have q2 := cell_of HW5.out (i := 2) rfl
              have n0 := cell_of HN5.out (i := 0) rfl
              have n1 := cell_of HN5.out (i := 1) rfl
              have n2 := cell_of HN5.out (i := 2) rfl
              have x2 := cell_of HX5.out (i := 2) rfl
              have HU := Aside0.mk (users_calls ino HT5.out HB5.out.size)
              have hu2 := H2.out.users
              have hlt : ¬ ((usersTo S3 ino 32 : Nat) : Int) < 2 := by omega
              clear hu2
              generalize usersTo S3 ino 32 = un at *
              unfold fcells at q0 q1 q2 n0 n1 n2 x2 HT5 HB5 HW5 HU
              unfold aggF fcells
              have o1 : ¬ o < 0 := by omega
              have o2 : ¬ o > 16384 := by omega
              go_wp2_with (go_at_call 19; (with_reducible refine HU.out.mono ?_); rintro e w6 ⟨rfl, hb6⟩; have HT6 := Aside0.mk (HT5.out.below hb6 HB5.out.size); have HB6 := Aside0.mk (bt HB5.out hb6); have HW6 := Aside0.mk (And.intro ((hb6.block _ (Only.lt HW5.out)).trans HW5.out) HA4.out); clear hb6)
              go_roundw
              case rel => exact ⟨k + 1, _, S3, by omega, by go_num, HT6, H2, HB6, HW6⟩
              case measure => simp [intOf]; omega
            · have k1b : (f0 == 1) = false := by simpa using k1
              have H2 := H2o
              have HT3 := HT1
              have HB3 := HB1
              have HW3 := HW1
              clear HT1 HB1 HW1 H2o
              obtain ⟨S3, hS3⟩ : ∃ S3, S = S3 := ⟨_, rfl⟩
              rw [hS3] at H2 HT3
              clear hS3
              have G0 := Aside0.mk (get_at (w := (wr.alloc (Obj.cells #[.int .i64 f0, .int .i64 f1, .int .i64 f2, .int .i64 f3, .int .i64 f4, .int .i64 f5, .int .i64 f6] 37))) 0 HT3.out H2.out.get0)
              go_wp2_with fail
              refine G0.out.mono ?_
              rintro e w4 ⟨rfl, hb4⟩
              have HT4 := Aside0.mk ((HT3.out.below hb4 HB3.out.size).below (W_below w4 (Cl (fcells (ino, fl, 0)) 44)) (Nat.le_trans HB3.out.size hb4.size))
              have HB4 := Aside0.mk ((bt HB3.out hb4).trans (W_below2 w4 (Cl (fcells (ino, fl, 0)) 44) (bt HB3.out hb4).size))
              have HW4 := Aside0.mk (heap_old (Cl (fcells (ino, fl, 0)) 44) ((hb4.block _ (Only.lt HW3.out.1)).trans HW3.out.1))
              have HN4 := Aside0.mk (heap_new w4 (Cl (fcells (ino, fl, 0)) 44))
              have HA4 := Aside0.mk HW3.out.2
              clear hb4 HT3 HB3 HW3 G0
              obtain ⟨o, ho1, ho2, hgo⟩ := H2.out.get1
              have G1 := Aside0.mk (get_at 1 HT4.out hgo)
              clear hgo
              unfold fcells at HT4 HB4 HW4 HN4 G1
              unfold aggF fcells
              go_wp2_with fail
              refine G1.out.mono ?_
              rintro e w5 ⟨rfl, hb5⟩
              have HT5 := Aside0.mk ((HT4.out.below hb5 HB4.out.size).below (W_below w5 (Cl (fcells (ino, fl, o)) 44)) (Nat.le_trans HB4.out.size hb5.size))
              have HB5 := Aside0.mk ((bt HB4.out hb5).trans (W_below2 w5 (Cl (fcells (ino, fl, o)) 44) (bt HB4.out hb5).size))
              have HW5 := Aside0.mk (heap_old (Cl (fcells (ino, fl, o)) 44) ((hb5.block _ (Only.lt HW4.out)).trans HW4.out))
              have HN5 := Aside0.mk (heap_old (Cl (fcells (ino, fl, o)) 44) ((hb5.block _ (Only.lt HN4.out)).trans HN4.out))
              have HX5 := Aside0.mk (heap_new w5 (Cl (fcells (ino, fl, o)) 44))
              clear hb5 HT4 HB4 HW4 HN4 G1
              have q0 := cell_of HW5.out (i := 0) rfl
              have q1 := cell_of HW5.out (i := 1) rfl
              have q2 := cell_of HW5.out (i := 2) rfl
              have n0 := cell_of HN5.out (i := 0) rfl
              have n1 := cell_of HN5.out (i := 1) rfl
              have n2 := cell_of HN5.out (i := 2) rfl
              have x2 := cell_of HX5.out (i := 2) rfl
              have HU := Aside0.mk (users_calls ino HT5.out HB5.out.size)
              have hu2 := H2.out.users
              have hlt : ¬ ((usersTo S3 ino 32 : Nat) : Int) < 2 := by omega
              clear hu2
              generalize usersTo S3 ino 32 = un at *
              unfold fcells at q0 q1 q2 n0 n1 n2 x2 HT5 HB5 HW5 HU
              unfold aggF fcells
              have o1 : ¬ o < 0 := by omega
              have o2 : ¬ o > 16384 := by omega
              go_wp2_with (go_at_call 19; (with_reducible refine HU.out.mono ?_); rintro e w6 ⟨rfl, hb6⟩; have HT6 := Aside0.mk (HT5.out.below hb6 HB5.out.size); have HB6 := Aside0.mk (bt HB5.out hb6); have HW6 := Aside0.mk (And.intro ((hb6.block _ (Only.lt HW5.out)).trans HW5.out) HA4.out); clear hb6)
              go_roundw
              case rel => exact ⟨k + 1, _, S3, by omega, by go_num, HT6, H2, HB6, HW6⟩
              case measure => simp [intOf]; omega
      · obtain rfl : k = l.length := by omega
        have C := Aside0.mk ((close_calls 1 HT.out HB.out.size).mono (fun e w'' h' => TabPost.at_ h' (S' := S.set 1 none) (v' := .tuple #[.int .i64 ino, .bool false, .int .i64 0]) (by rw [H2o.out.shut]) (by rw [H2o.out.shut])))
        have HG := Aside0.mk H2o.out.after
        go_wp2_with fail
        refine C.out.mono ?_
        rintro e w3 ⟨rfl, ⟨as3, T3, F3⟩, b3⟩
        have HT3 := Aside0.mk T3
        have HB3 := Aside0.mk (HB.out.trans b3.below)
        have HW3 := Aside0.mk (F3 _ _ HW.out.1 HW.out.2)
        clear T3 F3 b3 C HT HB HW H2o
        have G1 := Aside0.mk (get_at 1 HT3.out HG.out.2)
        go_wp2_with fail
        refine G1.out.mono ?_
        rintro e w4 ⟨rfl, hb4⟩
        have HT4 := Aside0.mk ((HT3.out.below hb4 HB3.out.size).below (W_below w4 (Cl (fcells (0, 0, 0)) 44)) (Nat.le_trans HB3.out.size hb4.size))
        have HB4 := Aside0.mk ((bt HB3.out hb4).trans (W_below2 w4 (Cl (fcells (0, 0, 0)) 44) (bt HB3.out hb4).size))
        have HW4 := Aside0.mk (heap_old (Cl (fcells (0, 0, 0)) 44) ((hb4.block _ (Only.lt HW3.out.1)).trans HW3.out.1))
        clear hb4 HT3 HB3 HW3 G1
        have G0 := Aside0.mk (get_at 0 HT4.out HG.out.1)
        unfold fcells at HT4 HB4 HW4 G0
        unfold aggF fcells
        go_wp2_with fail
        refine G0.out.mono ?_
        rintro e w5 ⟨rfl, hb5⟩
        have HB5 := Aside0.mk ((bt HB4.out hb5).trans (W_below2 w5 (Cl (fcells (ino, fl, 0)) 44) (bt HB4.out hb5).size))
        have HW5 := Aside0.mk (heap_old (Cl (fcells (ino, fl, 0)) 44) ((hb5.block _ (Only.lt HW4.out)).trans HW4.out))
        have q0 := cell_of HW5.out (i := 0) rfl
        have q1 := cell_of HW5.out (i := 1) rfl
        have q2 := cell_of HW5.out (i := 2) rfl
        clear hb5 HT4 HB4 HW4 G0
        unfold fcells at q0 q1 q2 HB5
        unfold aggF fcells
        go_wp2
        go_ret
        exact ⟨rfl, HB5.out⟩
def pumicelaw23_HandlesApart.f (a0 a1 : Int) (l2 : List S37) : Option Bool := if okL l2 = true then some true else none
theorem pumicelaw23_HandlesApart.calls (a0 a1 : Int) (A2 : Option Addr) (c2 : Nat) (l2 : List S37) (r : Bool) (w : World) (hr2 : Kd.C k37 w A2 l2.length l2) (hc2 : l2.length ≤ c2) (h : pumicelaw23_HandlesApart.f a0 a1 l2 = some r) : Calls Try.prog 5 #[.int .i64 a0, .int .i64 a1, .slice A2 l2.length c2] w fun e w' => e = .returned (.bool r) ∧ Below w.heap.size w w' := by
  unfold pumicelaw23_HandlesApart.f at h
  split at h
  · obtain rfl := Option.some.inj h
    exact apart_walk a0 a1 A2 c2 l2 w hr2 hc2 hr2.2.1 (by assumption)
  · cases h
theorem HandlesApart_pure (a0 a1 : Int) (l2 : List S37) (h : ∀ x ∈ l2, (Lit.int .i64 x.f4).wf = true ∧ (Lit.int .i64 x.f6).wf = true) : pumicelaw23_HandlesApart.f a0 a1 l2 = some true := by
  unfold pumicelaw23_HandlesApart.f
  rw [if_pos]
  unfold okL
  rw [List.all_eq_true]
  intro x hx
  obtain ⟨h4, h6⟩ := h x hx
  have q1 : IntKind.i64.min = -9223372036854775808 := rfl
  have q2 : IntKind.i64.max = 9223372036854775807 := rfl
  simp [Lit.wf, q1, q2] at h4 h6
  simp [inI, h4, h6]
end Go.Proofs.Ytgjajdejjiiocaa.Q
