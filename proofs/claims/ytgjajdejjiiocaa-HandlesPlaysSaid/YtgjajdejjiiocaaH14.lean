/- The document's table: Close, Seek, Move. -/
import Derived.Test.YtgjajdejjiiocaaH13
import Derived.Deep.RegionHeld3
namespace Go.Proofs.Ytgjajdejjiiocaa.Q
open Go.RowKit Go.Proofs.YtgjajdejjiiocaaW.PrintWords Go.Proofs.YtgjajdejjiiocaaW.PrintLast Go.Proofs.Ytgjajdejjiiocaa.Sep
set_option linter.unusedVariables false
set_option linter.unusedSimpArgs false
theorem sum_ok (a b : Int) (ha : -9223372036854775808 ≤ a ∧ a ≤ 9223372036854775807) (hb : -9223372036854775808 ≤ b ∧ b ≤ 9223372036854775807) : ∃ r, pumiceref23_sum.f a b = some (r, okO (a + b)) ∧ (okO (a + b) = true → r = a + b) := by
  unfold pumiceref23_sum.f okO wrap64
  repeat' split
  all_goals
    refine ⟨_, congrArg some (Prod.ext rfl ?_), ?_⟩
    · rw [Bool.eq_iff_iff]
      simp
      try omega
    · simp
      try omega
section
variable {w : World} {B d lb : Nat} {S : List (Option Fl)}
theorem Dclose_bad (h : Int) (v : Option Addr) (e : Int) (he : e = 9 ∨ e = 14) (hg : Calls Try.prog 26 #[.pointer v, .int .i64 h] w (RetPost w (.tuple #[aggF (0, 0, 0), .int .i64 e]))) : Calls Try.prog 14 #[.pointer v, .int .i64 h] w (RetPost w (.tuple #[.int .i64 0, .bool false, .int .i64 e])) := by
  have hgs := Aside0.mk hg
  clear hg
  rcases he with rfl | rfl
  all_goals
    go_enter Try.func14, Try.ntmps14
    go_wp2_with (go_at_call 26; (with_reducible refine hgs.out.mono ?_); rintro e w1 ⟨rfl, hb⟩; have HB := Aside0.mk hb; clear hb; unfold aggF fcells)
    go_ret3
    exact ⟨rfl, HB.out.trans (W_below2 _ _ HB.out.size)⟩
set_option maxHeartbeats 1000000 in
theorem Dclose_some (k : Nat) (f : Fl) (hk : k < 32) (hD : Dab w B d lb S) (hB : B ≤ w.heap.size) (hs : S[k]? = some (some f)) : Calls Try.prog 14 #[.pointer (some ⟨d, 0, none⟩), .int .i64 k] w (DabPost B d lb w (S.set k none) (.tuple #[.int .i64 f.1, .bool (((usersTo (S.set k none) f.1 32 : Nat) : Int) == 0), .int .i64 0])) := by
  obtain ⟨bv, hbv⟩ : ∃ bv, (((usersTo (S.set k none) f.1 32 : Nat) : Int) == 0) = bv := ⟨_, rfl⟩
  rw [hbv]
  have HV := Aside0.mk hbv
  clear hbv
  have HG := Aside0.mk (DGet_some k f hk hD hs)
  go_enter Try.func14, Try.ntmps14
  go_wp2_with fail
  refine HG.out.mono ?_
  rintro e w1 ⟨rfl, hb⟩
  have HD1 := Aside0.mk ((hD.below hb hB).below (W_below w1 (Cl (fcells f) 59)) (Nat.le_trans hB hb.size))
  have HO1 := Aside0.mk ((Only.of_below (X := XD) hb hB).alloc (Nat.le_trans hB hb.size) (Cl (fcells f) 59))
  have HN1 := Aside0.mk (heap_new w1 (Cl (fcells f) 59))
  have p0 := HD1.out.lcell
  have c0 := HD1.out.cell0 hs rfl
  have c1 := HD1.out.cell hs 1 (by decide) rfl
  have c2 := HD1.out.cell hs 2 (by decide) rfl
  have c3 := HD1.out.cell hs 3 (by decide) rfl
  have f0 := frozen_of HD1.out.hl (k * 4)
  have f1 := frozen_of HD1.out.hl (k * 4 + 1)
  have f2 := frozen_of HD1.out.hl (k * 4 + 2)
  have f3 := frozen_of HD1.out.hl (k * 4 + 3)
  have hfin := Aside0.mk (HD1.out.put hk none rfl)
  have hne : w1.heap.size ≠ lb := fun e => by
    have h1 := HD1.out.hl
    rw [← e, HN1.out] at h1
    injection h1 with h1
    injection h1 with _ e _
    exact absurd e (by decide)
  have HX := Aside0.mk (cell_of (heap_set_ne (i := k * 4 + 3) (.int .i64 0) (heap_set_ne (i := k * 4 + 2) (.int .i64 0) (heap_set_ne (i := k * 4 + 1) (.int .i64 0) (heap_set_ne (i := k * 4) (.bool false) HN1.out hne) hne) hne) hne) (i := 0) (v := .int .i64 f.1) rfl)
  clear hb hs HG hD hne
  unfold fcells at HD1 HO1 p0 c0 c1 c2 c3 f0 f1 f2 f3 hfin HX
  unfold aggF fcells
  go_wp2_with fail
  have hfin2 := hfin.out
  have hx2 := HX.out
  clear hfin HX p0 c0 c1 c2 c3 f0 f1 f2 f3 HD1 HN1
  generalize ((((w1.alloc (Cl [.int .i64 f.1, .int .i64 f.2.1, .int .i64 f.2.2] 59)).setCell ⟨lb, k * 4, none⟩ (.bool false)).setCell ⟨lb, k * 4 + 1, none⟩ (.int .i64 0)).setCell ⟨lb, k * 4 + 2, none⟩ (.int .i64 0)).setCell ⟨lb, k * 4 + 3, none⟩ (.int .i64 0) = W at *
  have hfin := Aside0.mk hfin2
  have HU := Aside0.mk (fun (W' : World) (e : W'.heap = W.heap) => Dusers_calls (w := W') f.1 (hfin2.1.any e))
  clear hfin2
  generalize usersTo (S.set k none) f.1 32 = n at *
  go_region_held3 (fun w' => w'.cell? ⟨w1.heap.size, 0, none⟩ = some (.int .i64 f.1)) (go_keep)
    ((go_at_call 20; refine (HU.out _ ?_).mono ?_; rfl; rintro e w' ⟨rfl, rfl⟩))
  go_wp2
  go_ret3
  exact ⟨by rw [← HV.out]; rfl, hfin.out.1.any rfl, by first | exact (HO1.out.trans hfin.out.2).drew | exact (HO1.out.trans hfin.out.2).drewN _⟩
theorem Dclose_calls (h : Int) (hD : Dab w B d lb S) (hB : B ≤ w.heap.size) : Calls Try.prog 14 #[.pointer (some ⟨d, 0, none⟩), .int .i64 h] w (DabPost B d lb w (closeS S h).1 (.tuple #[.int .i64 (closeS S h).2.1, .bool (closeS S h).2.2.1, .int .i64 (closeS S h).2.2.2])) := by
  have bad : getS S h = ((0, 0, 0), 9) → Calls Try.prog 14 #[.pointer (some ⟨d, 0, none⟩), .int .i64 h] w (DabPost B d lb w (closeS S h).1 (.tuple #[.int .i64 (closeS S h).2.1, .bool (closeS S h).2.2.1, .int .i64 (closeS S h).2.2.2])) := fun hg => by
    have hG := DGet_calls h hD
    rw [hg] at hG
    rw [closeS_no hg]
    refine (Dclose_bad h _ 9 (.inl rfl) hG).mono ?_
    rintro e w' ⟨rfl, hb⟩
    exact ⟨rfl, hD.below hb hB, Only.of_below hb hB⟩
  by_cases h0 : 0 ≤ h ∧ h < 32
  · obtain ⟨k, rfl⟩ := Int.eq_ofNat_of_zero_le h0.1
    have hk : k < 32 := by omega
    rcases hD.at_ hk with hs | ⟨f, hs⟩
    · exact bad (getS_none hs)
    · rw [closeS_yes (getS_yes hs)]
      exact Dclose_some k f hk hD hB hs
  · exact bad (getS_out hD.ls (by omega))
theorem Dseek_bad (h n wh z : Int) (v : Option Addr) (e : Int) (he : e = 9 ∨ e = 14) (hg : Calls Try.prog 26 #[.pointer v, .int .i64 h] w (RetPost w (.tuple #[aggF (0, 0, 0), .int .i64 e]))) : Calls Try.prog 16 #[.pointer v, .int .i64 h, .int .i64 n, .int .i64 wh, .int .i64 z] w (RetPost w (.tuple #[.int .i64 0, .int .i64 e])) := by
  have hgs := Aside0.mk hg
  clear hg
  rcases he with rfl | rfl
  all_goals
    go_enter Try.func16, Try.ntmps16
    go_wp2_with (go_at_call 26; (with_reducible refine hgs.out.mono ?_); rintro e w1 ⟨rfl, hb⟩; have HB := Aside0.mk hb; clear hb; unfold aggF fcells)
    go_ret2
    exact ⟨rfl, HB.out.trans (W_below2 _ _ HB.out.size)⟩
theorem Dmove_bad (h n : Int) (v : Option Addr) (e : Int) (he : e = 9 ∨ e = 14) (hg : Calls Try.prog 26 #[.pointer v, .int .i64 h] w (RetPost w (.tuple #[aggF (0, 0, 0), .int .i64 e]))) : Calls Try.prog 18 #[.pointer v, .int .i64 h, .int .i64 n] w (RetPost w (.int .i64 e)) := by
  have hgs := Aside0.mk hg
  clear hg
  rcases he with rfl | rfl
  all_goals
    go_enter Try.func18, Try.ntmps18
    go_wp2_with (go_at_call 26; (with_reducible refine hgs.out.mono ?_); rintro e w1 ⟨rfl, hb⟩; have HB := Aside0.mk hb; clear hb; unfold aggF fcells)
    go_ret
    exact ⟨rfl, HB.out.trans (W_below2 _ _ HB.out.size)⟩
set_option maxHeartbeats 2000000 in
theorem Dseek_yes (k : Nat) (f : Fl) (n wh z : Int) (hk : k < 32) (hD : Dab w B d lb S) (hB : B ≤ w.heap.size) (hs : S[k]? = some (some f)) (ho : 0 ≤ f.2.2 ∧ f.2.2 ≤ 16384) (hn : -9223372036854775808 ≤ n ∧ n ≤ 9223372036854775807) (hz : -9223372036854775808 ≤ z ∧ z ≤ 9223372036854775807) (hg : goodD f.2.2 n wh z = true) :
    Calls Try.prog 16 #[.pointer (some ⟨d, 0, none⟩), .int .i64 k, .int .i64 n, .int .i64 wh, .int .i64 z] w (DabPost B d lb w (S.set k (some (f.1, f.2.1, dest f.2.2 n wh z))) (.tuple #[.int .i64 (dest f.2.2 n wh z), .int .i64 0])) := by
  have HG := Aside0.mk (DGet_some k f hk hD hs)
  have HS1 := Aside0.mk (sum_ok f.2.2 n ⟨by omega, by omega⟩ hn)
  have HS2 := Aside0.mk (sum_ok z n hz hn)
  have HGD := Aside0.mk hg
  clear hg hn hz ho
  have hw : wh = 0 ∨ wh = 1 ∨ wh = 2 := by
    have := HGD.out
    unfold goodD at this
    simp only [Bool.and_eq_true, decide_eq_true_eq] at this
    omega
  have HW := Aside0.mk hw
  clear hw
  go_enter Try.func16, Try.ntmps16
  go_wp2_with fail
  refine HG.out.mono ?_
  rintro e w1 ⟨rfl, hb⟩
  have HD1 := Aside0.mk ((hD.below hb hB).below (W_below w1 (Cl (fcells f) 59)) (Nat.le_trans hB hb.size))
  have HO1 := Aside0.mk ((Only.of_below (X := XD) hb hB).alloc (Nat.le_trans hB hb.size) (Cl (fcells f) 59))
  have HN1 := Aside0.mk (heap_new w1 (Cl (fcells f) 59))
  have p0 := HD1.out.lcell
  have c3 := HD1.out.cell hs 3 (by decide) rfl
  have f3 := frozen_of HD1.out.hl (k * 4 + 3)
  have hs2 := Aside0.mk hs
  clear hb hs HG hD
  unfold fcells at HD1 HO1 HN1 p0 c3 f3
  unfold aggF fcells
  rcases HW.out with h0 | h0 | h0
  · subst h0
    have hok : okO n = true := HGD.out
    rw [okO_iff] at hok
    obtain ⟨k1, k2⟩ := hok
    go_wp2
    go_ret2
    have hm := HD1.out.moved hs2.out n
    exact ⟨rfl, hm.1, HO1.out.trans hm.2⟩
  · subst h0
    · have HOK := Aside0.mk (show okO (f.2.2 + n) = true from HGD.out)
      obtain ⟨r, hr, hrr⟩ := HS1.out
      rw [HOK.out] at hr hrr
      have HR := Aside0.mk hr
      have HRR := Aside0.mk hrr
      clear hr hrr
      go_wp2_with (go_at_call 29; (with_reducible refine (pumiceref23_sum.calls f.2.2 n r true _ HR.out).mono ?_); rintro e w2 ⟨rfl, ⟨nd, rfl⟩⟩)
      all_goals
        obtain rfl := HRR.out (by simp)
        go_ret2
        have hm := (HD1.out.any (w' := (w1.alloc (Obj.cells #[.int .i64 f.1, .int .i64 f.2.1, .int .i64 f.2.2] 59)).drewN nd) rfl).moved hs2.out (f.2.2 + n)
        exact ⟨rfl, hm.1, (HO1.out.drewN nd).trans hm.2⟩
  · subst h0
    · have HOK := Aside0.mk (show okO (z + n) = true from HGD.out)
      obtain ⟨r, hr, hrr⟩ := HS2.out
      rw [HOK.out] at hr hrr
      have HR := Aside0.mk hr
      have HRR := Aside0.mk hrr
      clear hr hrr
      go_wp2_with (go_at_call 29; (with_reducible refine (pumiceref23_sum.calls z n r true _ HR.out).mono ?_); rintro e w2 ⟨rfl, ⟨nd, rfl⟩⟩)
      all_goals
        obtain rfl := HRR.out (by simp)
        go_ret2
        have hm := (HD1.out.any (w' := (w1.alloc (Obj.cells #[.int .i64 f.1, .int .i64 f.2.1, .int .i64 f.2.2] 59)).drewN nd) rfl).moved hs2.out (z + n)
        exact ⟨rfl, hm.1, (HO1.out.drewN nd).trans hm.2⟩
set_option maxHeartbeats 2000000 in
theorem Dseek_no (k : Nat) (f : Fl) (n wh z : Int) (hk : k < 32) (hD : Dab w B d lb S) (hB : B ≤ w.heap.size) (hs : S[k]? = some (some f)) (ho : 0 ≤ f.2.2 ∧ f.2.2 ≤ 16384) (hn : -9223372036854775808 ≤ n ∧ n ≤ 9223372036854775807) (hz : -9223372036854775808 ≤ z ∧ z ≤ 9223372036854775807) (hg : goodD f.2.2 n wh z = false) :
    Calls Try.prog 16 #[.pointer (some ⟨d, 0, none⟩), .int .i64 k, .int .i64 n, .int .i64 wh, .int .i64 z] w (DabPost B d lb w S (.tuple #[.int .i64 0, .int .i64 22])) := by
  have HG := Aside0.mk (DGet_some k f hk hD hs)
  have HS1 := Aside0.mk (sum_ok f.2.2 n ⟨by omega, by omega⟩ hn)
  have HS2 := Aside0.mk (sum_ok z n hz hn)
  have HGD := Aside0.mk hg
  clear hg hn hz ho
  go_enter Try.func16, Try.ntmps16
  go_wp2_with fail
  refine HG.out.mono ?_
  rintro e w1 ⟨rfl, hb⟩
  have HD1 := Aside0.mk ((hD.below hb hB).below (W_below w1 (Cl (fcells f) 59)) (Nat.le_trans hB hb.size))
  have HO1 := Aside0.mk ((Only.of_below (X := XD) hb hB).alloc (Nat.le_trans hB hb.size) (Cl (fcells f) 59))
  have HN1 := Aside0.mk (heap_new w1 (Cl (fcells f) 59))
  have p0 := HD1.out.lcell
  have c3 := HD1.out.cell hs 3 (by decide) rfl
  have f3 := frozen_of HD1.out.hl (k * 4 + 3)
  have hs2 := Aside0.mk hs
  clear hb hs HG hD
  unfold fcells at HD1 HO1 HN1 p0 c3 f3
  unfold aggF fcells
  by_cases h0 : wh = 0
  · subst h0
    have hok : okO n = false := HGD.out
    have hok2 : ¬ (0 ≤ n ∧ n ≤ 16384) := fun h => by rw [(okO_iff n).2 h] at hok; cases hok
    clear hok
    by_cases k1 : 0 ≤ n
    · have k2 : ¬ n ≤ 16384 := fun h => hok2 ⟨k1, h⟩
      clear hok2
      go_wp2
      all_goals first
        | (exfalso; rename_i h; simp at h; omega)
        | (go_ret2; exact ⟨rfl, HD1.out, HO1.out⟩)
    · clear hok2
      go_wp2
      go_ret2
      exact ⟨rfl, HD1.out, HO1.out⟩
  · have h00 : (wh == 0) = false := by simpa using h0
    by_cases h1 : wh = 1
    · subst h1
      have HOK := Aside0.mk (show okO (f.2.2 + n) = false from HGD.out)
      obtain ⟨r, hr, hrr⟩ := HS1.out
      rw [HOK.out] at hr hrr
      have HR := Aside0.mk hr
      have HRR := Aside0.mk hrr
      clear hr hrr
      go_wp2_with (go_at_call 29; (with_reducible refine (pumiceref23_sum.calls f.2.2 n r false _ HR.out).mono ?_); rintro e w2 ⟨rfl, ⟨nd, rfl⟩⟩)
      all_goals
        go_ret2
        exact ⟨rfl, HD1.out.any rfl, HO1.out.drewN nd⟩
    · have h10 : (wh == 1) = false := by simpa using h1
      by_cases h2 : wh = 2
      · subst h2
        have HOK := Aside0.mk (show okO (z + n) = false from HGD.out)
        obtain ⟨r, hr, hrr⟩ := HS2.out
        rw [HOK.out] at hr hrr
        have HR := Aside0.mk hr
        have HRR := Aside0.mk hrr
        clear hr hrr
        go_wp2_with (go_at_call 29; (with_reducible refine (pumiceref23_sum.calls z n r false _ HR.out).mono ?_); rintro e w2 ⟨rfl, ⟨nd, rfl⟩⟩)
        all_goals
          go_ret2
          exact ⟨rfl, HD1.out.any rfl, HO1.out.drewN nd⟩
      · have h20 : (wh == 2) = false := by simpa using h2
        go_wp2
        all_goals
          go_ret2
          exact ⟨rfl, HD1.out, HO1.out⟩
theorem Dseek_calls (h n wh z : Int) (hD : Dab w B d lb S) (hB : B ≤ w.heap.size) (hO : Offs S) (hn : -9223372036854775808 ≤ n ∧ n ≤ 9223372036854775807) (hz : -9223372036854775808 ≤ z ∧ z ≤ 9223372036854775807) :
    Calls Try.prog 16 #[.pointer (some ⟨d, 0, none⟩), .int .i64 h, .int .i64 n, .int .i64 wh, .int .i64 z] w (DabPost B d lb w (seekS S h n wh z).1 (.tuple #[.int .i64 (seekS S h n wh z).2.1, .int .i64 (seekS S h n wh z).2.2])) := by
  have bad : getS S h = ((0, 0, 0), 9) → Calls Try.prog 16 #[.pointer (some ⟨d, 0, none⟩), .int .i64 h, .int .i64 n, .int .i64 wh, .int .i64 z] w (DabPost B d lb w (seekS S h n wh z).1 (.tuple #[.int .i64 (seekS S h n wh z).2.1, .int .i64 (seekS S h n wh z).2.2])) := fun hg => by
    have hG := DGet_calls h hD
    rw [hg] at hG
    rw [seekS_no n wh z hg]
    refine (Dseek_bad h n wh z _ 9 (.inl rfl) hG).mono ?_
    rintro e w' ⟨rfl, hb⟩
    exact ⟨rfl, hD.below hb hB, Only.of_below hb hB⟩
  by_cases h0 : 0 ≤ h ∧ h < 32
  · obtain ⟨k, rfl⟩ := Int.eq_ofNat_of_zero_le h0.1
    have hk : k < 32 := by omega
    rcases hD.at_ hk with hs | ⟨f, hs⟩
    · exact bad (getS_none hs)
    · rw [seekS_yes n wh z hs]
      by_cases hg : goodD f.2.2 n wh z = true
      · rw [if_pos hg]
        exact Dseek_yes k f n wh z hk hD hB hs (hO k f hs) hn hz hg
      · rw [if_neg hg]
        exact Dseek_no k f n wh z hk hD hB hs (hO k f hs) hn hz (Bool.eq_false_iff.2 hg)
  · exact bad (getS_out hD.ls (by omega))
set_option maxHeartbeats 2000000 in
theorem Dmove_yes (k : Nat) (f : Fl) (n : Int) (hk : k < 32) (hD : Dab w B d lb S) (hB : B ≤ w.heap.size) (hs : S[k]? = some (some f)) (ho : 0 ≤ f.2.2 ∧ f.2.2 ≤ 16384) (hn : -9223372036854775808 ≤ n ∧ n ≤ 9223372036854775807) (hg : okO (f.2.2 + n) = true) :
    Calls Try.prog 18 #[.pointer (some ⟨d, 0, none⟩), .int .i64 k, .int .i64 n] w (DabPost B d lb w (S.set k (some (f.1, f.2.1, f.2.2 + n))) (.int .i64 0)) := by
  have HG := Aside0.mk (DGet_some k f hk hD hs)
  have HS1 := Aside0.mk (sum_ok f.2.2 n ⟨by omega, by omega⟩ hn)
  have HOK := Aside0.mk hg
  clear hg hn ho
  go_enter Try.func18, Try.ntmps18
  go_wp2_with fail
  refine HG.out.mono ?_
  rintro e w1 ⟨rfl, hb⟩
  have HD1 := Aside0.mk ((hD.below hb hB).below (W_below w1 (Cl (fcells f) 59)) (Nat.le_trans hB hb.size))
  have HO1 := Aside0.mk ((Only.of_below (X := XD) hb hB).alloc (Nat.le_trans hB hb.size) (Cl (fcells f) 59))
  have HN1 := Aside0.mk (heap_new w1 (Cl (fcells f) 59))
  have p0 := HD1.out.lcell
  have c3 := HD1.out.cell hs 3 (by decide) rfl
  have f3 := frozen_of HD1.out.hl (k * 4 + 3)
  have hs2 := Aside0.mk hs
  clear hb hs HG hD
  unfold fcells at HD1 HO1 HN1 p0 c3 f3
  unfold aggF fcells
  · skip
    · skip
      obtain ⟨r, hr, hrr⟩ := HS1.out
      rw [HOK.out] at hr hrr
      have HR := Aside0.mk hr
      have HRR := Aside0.mk hrr
      clear hr hrr
      go_wp2_with (go_at_call 29; (with_reducible refine (pumiceref23_sum.calls f.2.2 n r true _ HR.out).mono ?_); rintro e w2 ⟨rfl, ⟨nd, rfl⟩⟩)
      all_goals
        obtain rfl := HRR.out (by simp)
        go_ret
        have hm := (HD1.out.any (w' := (w1.alloc (Obj.cells #[.int .i64 f.1, .int .i64 f.2.1, .int .i64 f.2.2] 59)).drewN nd) rfl).moved hs2.out (f.2.2 + n)
        exact ⟨rfl, hm.1, (HO1.out.drewN nd).trans hm.2⟩
set_option maxHeartbeats 2000000 in
theorem Dmove_no (k : Nat) (f : Fl) (n : Int) (hk : k < 32) (hD : Dab w B d lb S) (hB : B ≤ w.heap.size) (hs : S[k]? = some (some f)) (ho : 0 ≤ f.2.2 ∧ f.2.2 ≤ 16384) (hn : -9223372036854775808 ≤ n ∧ n ≤ 9223372036854775807) (hg : okO (f.2.2 + n) = false) :
    Calls Try.prog 18 #[.pointer (some ⟨d, 0, none⟩), .int .i64 k, .int .i64 n] w (DabPost B d lb w S (.int .i64 22)) := by
  have HG := Aside0.mk (DGet_some k f hk hD hs)
  have HS1 := Aside0.mk (sum_ok f.2.2 n ⟨by omega, by omega⟩ hn)
  have HOK := Aside0.mk hg
  clear hg hn ho
  go_enter Try.func18, Try.ntmps18
  go_wp2_with fail
  refine HG.out.mono ?_
  rintro e w1 ⟨rfl, hb⟩
  have HD1 := Aside0.mk ((hD.below hb hB).below (W_below w1 (Cl (fcells f) 59)) (Nat.le_trans hB hb.size))
  have HO1 := Aside0.mk ((Only.of_below (X := XD) hb hB).alloc (Nat.le_trans hB hb.size) (Cl (fcells f) 59))
  have HN1 := Aside0.mk (heap_new w1 (Cl (fcells f) 59))
  have p0 := HD1.out.lcell
  have c3 := HD1.out.cell hs 3 (by decide) rfl
  have f3 := frozen_of HD1.out.hl (k * 4 + 3)
  have hs2 := Aside0.mk hs
  clear hb hs HG hD
  unfold fcells at HD1 HO1 HN1 p0 c3 f3
  unfold aggF fcells
  · skip
    · skip
      obtain ⟨r, hr, hrr⟩ := HS1.out
      rw [HOK.out] at hr hrr
      have HR := Aside0.mk hr
      have HRR := Aside0.mk hrr
      clear hr hrr
      go_wp2_with (go_at_call 29; (with_reducible refine (pumiceref23_sum.calls f.2.2 n r false _ HR.out).mono ?_); rintro e w2 ⟨rfl, ⟨nd, rfl⟩⟩)
      all_goals
        go_ret
        exact ⟨rfl, HD1.out.any rfl, HO1.out.drewN nd⟩
theorem Dmove_calls (h n : Int) (hD : Dab w B d lb S) (hB : B ≤ w.heap.size) (hO : Offs S) (hn : -9223372036854775808 ≤ n ∧ n ≤ 9223372036854775807) :
    Calls Try.prog 18 #[.pointer (some ⟨d, 0, none⟩), .int .i64 h, .int .i64 n] w (DabPost B d lb w (moveS S h n).1 (.int .i64 (moveS S h n).2)) := by
  unfold moveS
  have bad : getS S h = ((0, 0, 0), 9) → Calls Try.prog 18 #[.pointer (some ⟨d, 0, none⟩), .int .i64 h, .int .i64 n] w (DabPost B d lb w (seekS S h n 1 0).1 (.int .i64 (seekS S h n 1 0).2.2)) := fun hg => by
    have hG := DGet_calls h hD
    rw [hg] at hG
    rw [seekS_no n 1 0 hg]
    refine (Dmove_bad h n _ 9 (.inl rfl) hG).mono ?_
    rintro e w' ⟨rfl, hb⟩
    exact ⟨rfl, hD.below hb hB, Only.of_below hb hB⟩
  by_cases h0 : 0 ≤ h ∧ h < 32
  · obtain ⟨k, rfl⟩ := Int.eq_ofNat_of_zero_le h0.1
    have hk : k < 32 := by omega
    rcases hD.at_ hk with hs | ⟨f, hs⟩
    · exact bad (getS_none hs)
    · rw [seekS_yes n 1 0 hs, goodD_one, dest_one]
      by_cases hg : okO (f.2.2 + n) = true
      · rw [if_pos hg]
        exact Dmove_yes k f n hk hD hB hs (hO k f hs) hn hg
      · rw [if_neg hg]
        exact Dmove_no k f n hk hD hB hs (hO k f hs) hn (Bool.eq_false_iff.2 hg)
  · exact bad (getS_out hD.ls (by omega))
end
end Go.Proofs.Ytgjajdejjiiocaa.Q
