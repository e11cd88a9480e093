/- Functions of this seat as plain Lean functions, each with the contract that the machine keeps. No condition. Laid by wip/qprint.py. -/
import Derived.Test.YthcooheghekplaaDoorQ0
import Derived.Test.YthcooheghekplaaDoorQ1
import Derived.Test.YthcooheghekplaaDoorQ3
import Derived.Test.YthcooheghekplaaDoorQ4
import Derived.Test.YthcooheghekplaaDoorQ5
import Derived.Test.YthcooheghekplaaDoorH4
import Derived.Test.YthcooheghekplaaDoorH6
namespace Go.Proofs.YthcooheghekplaaDoor.Q
open Go.RowKit Go.Proofs.YthcooheghekplaaDoorW.PrintWords Go.Proofs.YthcooheghekplaaDoorW.PrintLast Go.Proofs.YthcooheghekplaaDoorW.PrintMore
attribute [local go_sem] max2_int min2_int max_two min_two max_three min_three max_four min_four   -- for this text's walks alone
set_option linter.unusedVariables false
set_option linter.unusedSimpArgs false

/-! ### pumicelaw02_NamesOrders: function 9 -/
def pumicelaw02_NamesOrders.f (k : Nat) (a0 : ByteArray) (a1 : ByteArray) (l2 : List ByteArray) (l3 : List ByteArray) : Option (Bool) := (some (([] : List ByteArray) : List ByteArray)).bind fun y308 => (if y308.length + l2.length < 8796093022208 then ((some (y308 ++ l2 : List ByteArray)).bind fun y311 => ((names_Less.f a0 a1).bind fun t314 => ((pumiceref02_Less.f k a0 a1).bind fun t315 => (if (t314 == t315) = true then ((names_Sort.f y311).bind fun t316 => ((pumiceref02_Sort.f k l2).bind fun t319 => ((pumicelaw02_Texts.f k t316 t319).bind fun t322 => (if t322 = true then ((pumicelaw02_Texts.f k y311 l2).bind fun t323 => (if t323 = true then ((names_Within.f l2 l3).bind fun t324 => ((pumiceref02_Within.f k l2 l3).bind fun t325 => (if (t324 == t325) = true then ((pumicelaw02_alive.f k).bind fun t326 => (some t326)) else (none)))) else (none))) else (none))))) else (none))))) else (none))
theorem pumicelaw02_NamesOrders.mono : ∀ a0 a1 a2 a3 k, LeO (pumicelaw02_NamesOrders.f k a0 a1 a2 a3) (pumicelaw02_NamesOrders.f (k + 1) a0 a1 a2 a3) := by
  intro a0 a1 a2 a3 k
  unfold pumicelaw02_NamesOrders.f
  repeat' first
      | (with_reducible exact pumicelaw02_Texts.mono _ _ _)
      | (with_reducible exact pumicelaw02_alive.mono _)
      | (with_reducible exact pumiceref02_Less.mono _ _ _)
      | (with_reducible exact pumiceref02_Sort.mono _ _)
      | (with_reducible exact pumiceref02_Within.mono _ _ _)
      | (with_reducible exact LeO.refl _)
      | (with_reducible exact LeO.none _)
      | (with_reducible refine LeO.ite ?_ ?_)
      | (with_reducible refine LeO.bind ?_ (fun _ => ?_))
      | exact pumicelaw02_Texts.mono _ _ _
      | exact pumicelaw02_alive.mono _
      | exact pumiceref02_Less.mono _ _ _
      | exact pumiceref02_Sort.mono _ _
      | exact pumiceref02_Within.mono _ _ _
      | exact LeO.none _
      | refine LeO.ite ?_ ?_
      | refine LeO.bind ?_ (fun _ => ?_)
set_option maxHeartbeats 8000000 in
set_option maxRecDepth 100000 in
theorem pumicelaw02_NamesOrders.calls (k : Nat) (a0 : ByteArray) (a1 : ByteArray) (A2 : Option Addr) (c2 : Nat) (l2 : List ByteArray) (A3 : Option Addr) (c3 : Nat) (l3 : List ByteArray) (r : Bool) (w : World) (hr2 : Kd.C Kd.string w A2 l2.length l2) (hc2 : l2.length ≤ c2) (hr3 : Kd.C Kd.string w A3 l3.length l3) (hc3 : l3.length ≤ c3) (h : pumicelaw02_NamesOrders.f k a0 a1 l2 l3 = some r) :
    Calls Tryd.prog 9 #[.string a0, .string a1, .slice A2 l2.length c2, .slice A3 l3.length c3] w fun e w' => e = .returned (.bool r) ∧ Below w.heap.size w w' := by
  have HR2 := Aside0.mk hr2
  have HC2 := Aside0.mk hc2
  clear hr2 hc2
  have HR3 := Aside0.mk hr3
  have HC3 := Aside0.mk hc3
  clear hr3 hc3
  have HB := Aside0.mk (Below.refl w.heap.size w)
  have H : ((some (([] : List ByteArray) : List ByteArray)).bind fun y308 => (if y308.length + l2.length < 8796093022208 then ((some (y308 ++ l2 : List ByteArray)).bind fun y311 => ((names_Less.f a0 a1).bind fun t314 => ((pumiceref02_Less.f k a0 a1).bind fun t315 => (if (t314 == t315) = true then ((names_Sort.f y311).bind fun t316 => ((pumiceref02_Sort.f k l2).bind fun t319 => ((pumicelaw02_Texts.f k t316 t319).bind fun t322 => (if t322 = true then ((pumicelaw02_Texts.f k y311 l2).bind fun t323 => (if t323 = true then ((names_Within.f l2 l3).bind fun t324 => ((pumiceref02_Within.f k l2 l3).bind fun t325 => (if (t324 == t325) = true then ((pumicelaw02_alive.f k).bind fun t326 => (some t326)) else (none)))) else (none))) else (none))))) else (none))))) else (none))) = some r := h
  clear h
  obtain ⟨y308, hy308⟩ : ∃ y_ : List ByteArray, y_ = (([] : List ByteArray)) := ⟨_, rfl⟩
  replace H : (if y308.length + l2.length < 8796093022208 then ((some (y308 ++ l2 : List ByteArray)).bind fun y311 => ((names_Less.f a0 a1).bind fun t314 => ((pumiceref02_Less.f k a0 a1).bind fun t315 => (if (t314 == t315) = true then ((names_Sort.f y311).bind fun t316 => ((pumiceref02_Sort.f k l2).bind fun t319 => ((pumicelaw02_Texts.f k t316 t319).bind fun t322 => (if t322 = true then ((pumicelaw02_Texts.f k y311 l2).bind fun t323 => (if t323 = true then ((names_Within.f l2 l3).bind fun t324 => ((pumiceref02_Within.f k l2 l3).bind fun t325 => (if (t324 == t325) = true then ((pumicelaw02_alive.f k).bind fun t326 => (some t326)) else (none)))) else (none))) else (none))))) else (none))))) else (none)) = some r := by first | (rw [hy308]; with_reducible exact H) | (have H2_ := (Option.bind_some _ _).symm.trans H; rw [hy308]; with_reducible exact H2_) | (have H2_ := (Option.bind_some _ _).symm.trans H; with_reducible exact H2_) | with_reducible exact H | (rw [hy308]; exact H) | exact H
  have Ny308 := Aside0.mk hy308
  clear hy308
  by_cases c5 : y308.length + l2.length < 8796093022208
  · rw [if_pos c5] at H
    have LMc5 := Aside0.mk c5
    clear c5
    obtain ⟨y311, hy311⟩ : ∃ y_ : List ByteArray, y_ = (y308 ++ l2) := ⟨_, rfl⟩
    replace H : ((names_Less.f a0 a1).bind fun t314 => ((pumiceref02_Less.f k a0 a1).bind fun t315 => (if (t314 == t315) = true then ((names_Sort.f y311).bind fun t316 => ((pumiceref02_Sort.f k l2).bind fun t319 => ((pumicelaw02_Texts.f k t316 t319).bind fun t322 => (if t322 = true then ((pumicelaw02_Texts.f k y311 l2).bind fun t323 => (if t323 = true then ((names_Within.f l2 l3).bind fun t324 => ((pumiceref02_Within.f k l2 l3).bind fun t325 => (if (t324 == t325) = true then ((pumicelaw02_alive.f k).bind fun t326 => (some t326)) else (none)))) else (none))) else (none))))) else (none)))) = some r := by first | (rw [hy311]; with_reducible exact H) | (have H2_ := (Option.bind_some _ _).symm.trans H; rw [hy311]; with_reducible exact H2_) | (have H2_ := (Option.bind_some _ _).symm.trans H; with_reducible exact H2_) | with_reducible exact H | (rw [hy311]; exact H) | exact H
    have Ny311 := Aside0.mk hy311
    clear hy311
    replace H := Option.bind_eq_some_iff.mp H
    obtain ⟨t314, A60, H⟩ := H
    replace H : ((pumiceref02_Less.f k a0 a1).bind fun t315 => (if (t314 == t315) = true then ((names_Sort.f y311).bind fun t316 => ((pumiceref02_Sort.f k l2).bind fun t319 => ((pumicelaw02_Texts.f k t316 t319).bind fun t322 => (if t322 = true then ((pumicelaw02_Texts.f k y311 l2).bind fun t323 => (if t323 = true then ((names_Within.f l2 l3).bind fun t324 => ((pumiceref02_Within.f k l2 l3).bind fun t325 => (if (t324 == t325) = true then ((pumicelaw02_alive.f k).bind fun t326 => (some t326)) else (none)))) else (none))) else (none))))) else (none))) = some r := H
    have A6 := Aside0.mk A60
    clear A60
    replace H := Option.bind_eq_some_iff.mp H
    obtain ⟨t315, A70, H⟩ := H
    replace H : (if (t314 == t315) = true then ((names_Sort.f y311).bind fun t316 => ((pumiceref02_Sort.f k l2).bind fun t319 => ((pumicelaw02_Texts.f k t316 t319).bind fun t322 => (if t322 = true then ((pumicelaw02_Texts.f k y311 l2).bind fun t323 => (if t323 = true then ((names_Within.f l2 l3).bind fun t324 => ((pumiceref02_Within.f k l2 l3).bind fun t325 => (if (t324 == t325) = true then ((pumicelaw02_alive.f k).bind fun t326 => (some t326)) else (none)))) else (none))) else (none))))) else (none)) = some r := H
    have A7 := Aside0.mk A70
    clear A70
    by_cases c8 : (t314 == t315) = true
    · rw [if_pos c8] at H
      have c8b0 : (t314 == t315) = true := c8
      (try (have c8b1 : decide (t314 = t315) = true := by simpa using c8))
      (try (have c8b2 : (t314 == t315) = true := by simpa using c8))
      clear c8
      replace H := Option.bind_eq_some_iff.mp H
      obtain ⟨t316, A90, H⟩ := H
      replace H : ((pumiceref02_Sort.f k l2).bind fun t319 => ((pumicelaw02_Texts.f k t316 t319).bind fun t322 => (if t322 = true then ((pumicelaw02_Texts.f k y311 l2).bind fun t323 => (if t323 = true then ((names_Within.f l2 l3).bind fun t324 => ((pumiceref02_Within.f k l2 l3).bind fun t325 => (if (t324 == t325) = true then ((pumicelaw02_alive.f k).bind fun t326 => (some t326)) else (none)))) else (none))) else (none)))) = some r := H
      have A9 := Aside0.mk A90
      clear A90
      replace H := Option.bind_eq_some_iff.mp H
      obtain ⟨t319, A100, H⟩ := H
      replace H : ((pumicelaw02_Texts.f k t316 t319).bind fun t322 => (if t322 = true then ((pumicelaw02_Texts.f k y311 l2).bind fun t323 => (if t323 = true then ((names_Within.f l2 l3).bind fun t324 => ((pumiceref02_Within.f k l2 l3).bind fun t325 => (if (t324 == t325) = true then ((pumicelaw02_alive.f k).bind fun t326 => (some t326)) else (none)))) else (none))) else (none))) = some r := H
      have A10 := Aside0.mk A100
      clear A100
      replace H := Option.bind_eq_some_iff.mp H
      obtain ⟨t322, A110, H⟩ := H
      replace H : (if t322 = true then ((pumicelaw02_Texts.f k y311 l2).bind fun t323 => (if t323 = true then ((names_Within.f l2 l3).bind fun t324 => ((pumiceref02_Within.f k l2 l3).bind fun t325 => (if (t324 == t325) = true then ((pumicelaw02_alive.f k).bind fun t326 => (some t326)) else (none)))) else (none))) else (none)) = some r := H
      have A11 := Aside0.mk A110
      clear A110
      by_cases c12 : t322 = true
      · subst c12
        have H1 : ((pumicelaw02_Texts.f k y311 l2).bind fun t323 => (if t323 = true then ((names_Within.f l2 l3).bind fun t324 => ((pumiceref02_Within.f k l2 l3).bind fun t325 => (if (t324 == t325) = true then ((pumicelaw02_alive.f k).bind fun t326 => (some t326)) else (none)))) else (none))) = some r := by rw [if_pos rfl] at H; exact H
        clear H
        have H := H1
        clear H1
        replace H := Option.bind_eq_some_iff.mp H
        obtain ⟨t323, A130, H⟩ := H
        replace H : (if t323 = true then ((names_Within.f l2 l3).bind fun t324 => ((pumiceref02_Within.f k l2 l3).bind fun t325 => (if (t324 == t325) = true then ((pumicelaw02_alive.f k).bind fun t326 => (some t326)) else (none)))) else (none)) = some r := H
        have A13 := Aside0.mk A130
        clear A130
        by_cases c14 : t323 = true
        · subst c14
          have H1 : ((names_Within.f l2 l3).bind fun t324 => ((pumiceref02_Within.f k l2 l3).bind fun t325 => (if (t324 == t325) = true then ((pumicelaw02_alive.f k).bind fun t326 => (some t326)) else (none)))) = some r := by rw [if_pos rfl] at H; exact H
          clear H
          have H := H1
          clear H1
          replace H := Option.bind_eq_some_iff.mp H
          obtain ⟨t324, A150, H⟩ := H
          replace H : ((pumiceref02_Within.f k l2 l3).bind fun t325 => (if (t324 == t325) = true then ((pumicelaw02_alive.f k).bind fun t326 => (some t326)) else (none))) = some r := H
          have A15 := Aside0.mk A150
          clear A150
          replace H := Option.bind_eq_some_iff.mp H
          obtain ⟨t325, A160, H⟩ := H
          replace H : (if (t324 == t325) = true then ((pumicelaw02_alive.f k).bind fun t326 => (some t326)) else (none)) = some r := H
          have A16 := Aside0.mk A160
          clear A160
          by_cases c17 : (t324 == t325) = true
          · rw [if_pos c17] at H
            have c17b0 : (t324 == t325) = true := c17
            (try (have c17b1 : decide (t324 = t325) = true := by simpa using c17))
            (try (have c17b2 : (t324 == t325) = true := by simpa using c17))
            clear c17
            replace H := Option.bind_eq_some_iff.mp H
            obtain ⟨t326, A180, H⟩ := H
            replace H : (some t326) = some r := H
            have A18 := Aside0.mk A180
            clear A180
            obtain rfl := Option.some.inj H
            go_enter Tryd.func9, Tryd.ntmps9
            go_wp2_with (first | ((with_reducible refine gate_dst (N := 10) rfl ?_); refine Kd.R_lit Kd.string _ 9 ?hg (N := 10) ?hd (xs := ([] : List ByteArray)) (inner := []) (ok := fun _ => True) (okp := fun _ => True) ?hr ?hp (fun _ hk => hk) trivial (Below.refl _ _) (Nat.le_refl _) (by simp) ?_; (case hd => rfl); (case hg => rfl); (case hr => first | (go_simp; done) | (go_simp; rfl)); (case hp => exact (Reps.none _ _)); intro v309 w19 ho20 hb hg_ hnew_; clear hg_ hnew_; (first | rw [← Ny308.out] at ho20 | (simp only [Int.reduceToNat] at ho20; rw [← Ny308.out] at ho20)); have n0_ := Aside0.mk (Kd.R_lower ho20 (below_size (by repeat (first | (with_reducible first | exact HB.out | apply below_alloc | apply pw_below_drewN | apply below_drew1) | exact HB.out)))); have n1_ := Aside0.mk (below_step (by repeat (first | (with_reducible first | exact HB.out | apply below_alloc | apply pw_below_drewN | apply below_drew1) | exact HB.out)) hb); clear HB; have HO310 := n0_; have HB := n1_; clear n0_ n1_; clear hb ho20) | ((with_reducible refine gate_builtin (b := .append) (xs := #[.tmp 10, .tmp 11]) rfl ?_); at_builtin; refine Kd.R_append_rows Kd.string (w0 := w) w.heap.size rfl (.tmp 10) (.tmp 11) 22 9 (.string ⟨#[]⟩) 16 rfl Tryd.underlying22 info9 rfl (by decide) (by omega) v309 y308 l2 _ _ _ (fun _ => True) (fun _ => False) rfl rfl ?aO ?aR (fun _ _ h => h) (fun _ h => h.elim) ?aF ?aB ?aS ?aL ?_; (case aR => repeat (first | exact (Kd.C_below HR2.out HB.out) | (with_reducible refine Kd.C_alloc ?_ _) | (with_reducible refine Kd.C_drewN ?_ _) | (with_reducible refine Kd.C_drew ?_))); (case aB => exact (by repeat (first | (with_reducible first | exact HB.out | apply below_alloc | apply pw_below_drewN | apply below_drew1) | exact HB.out))); (case aF => exact (fun _ _ => trivial)); (case aO => exact (by (with_reducible repeat (first | apply Kd.R_alloc | apply Kd.R_drewN | apply Kd.R_drew)); exact HO310.out)); (case aS => exact (below_size (by repeat (first | (with_reducible first | exact HB.out | apply below_alloc | apply pw_below_drewN | apply below_drew1) | exact HB.out)))); (case aL => have := LMc5.out; omega); intro v312 w21 ho hb hg hat; rw [← Ny311.out] at ho; have n0_ := Aside0.mk (hb); have n1_ := Aside0.mk (ho); clear HB; clear HO310; have HB := n0_; have HO313 := n1_; clear n0_ n1_; clear ho hb hg hat) | ((with_reducible refine gate_callee (f := 24) rfl ?_); refine goesL_ (some 15) rfl rfl Tryd.func24 (by kernel_rfl) rfl #[.string a0, .string a1] rfl (by (try simp only [List.map_toArray, List.map_cons, List.map_nil]); first | done | rfl | (simp only [List.length_drop, List.length_take]; rfl)) ?_; (with_reducible refine (names_Less.calls a0 a1 t314 _ A6.out).mono ?_); rintro e w' ⟨rfl, ⟨nd, rfl⟩⟩; refine ⟨_, rfl, ?_⟩) | ((with_reducible refine gate_callee (f := 26) rfl ?_); refine goesL_ (some 18) rfl rfl Tryd.func26 (by kernel_rfl) rfl #[.string a0, .string a1] rfl (by (try simp only [List.map_toArray, List.map_cons, List.map_nil]); first | done | rfl | (simp only [List.length_drop, List.length_take]; rfl)) ?_; (with_reducible refine (pumiceref02_Less.calls k a0 a1 t315 _ A7.out).mono ?_); rintro e w' ⟨rfl, ⟨nd, rfl⟩⟩; refine ⟨_, rfl, ?_⟩; obtain ⟨Ao22, co22, eo22⟩ := Kd.R_slice HO313.out; subst eo22) | (go_at_call 25; (with_reducible refine (names_Sort.calls _ _ y311 t316 _ ?side1 ?side2 A9.out).mono ?_); (case side1 => repeat (first | exact (Kd.R_reads' HO313.out).2.2 | (with_reducible refine Kd.C_alloc ?_ _) | (with_reducible refine Kd.C_drewN ?_ _) | (with_reducible refine Kd.C_drew ?_))); (case side2 => exact (Kd.R_reads' HO313.out).2.1); rintro e w23 ⟨v317, rfl, ho0, hb⟩; have n0_ := Aside0.mk (Kd.R_elder' (by (with_reducible repeat (first | apply Kd.R_alloc | apply Kd.R_drewN | apply Kd.R_drew)); exact HO313.out) (Kd.R_base ho0) hb); have n1_ := Aside0.mk (Kd.R_lower (Kd.R_new' ho0 (Kd.R_lt (by (with_reducible repeat (first | apply Kd.R_alloc | apply Kd.R_drewN | apply Kd.R_drew)); exact HO313.out))) (below_size (by repeat (first | (with_reducible first | exact HB.out | apply below_alloc | apply pw_below_drewN | apply below_drew1) | exact HB.out)))); have n2_ := Aside0.mk (below_step (by repeat (first | (with_reducible first | exact HB.out | apply below_alloc | apply pw_below_drewN | apply below_drew1) | exact HB.out)) hb); clear HO313; clear HB; have HO313 := n0_; have HO318 := n1_; have HB := n2_; clear n0_ n1_ n2_; (try clear hb); (try clear hb2); (try clear hk); (try clear hi); (try clear ho0)) | (go_at_call 27; (with_reducible refine (pumiceref02_Sort.calls k _ _ l2 t319 _ ?side1 ?side2 A10.out).mono ?_); (case side1 => repeat (first | exact (Kd.C_below HR2.out HB.out) | (with_reducible refine Kd.C_alloc ?_ _) | (with_reducible refine Kd.C_drewN ?_ _) | (with_reducible refine Kd.C_drew ?_))); (case side2 => exact HC2.out); rintro e w24 ⟨v320, rfl, ho0, hb⟩; have n0_ := Aside0.mk (Kd.R_elder' (by (with_reducible repeat (first | apply Kd.R_alloc | apply Kd.R_drewN | apply Kd.R_drew)); exact HO313.out) (Kd.R_base ho0) hb); have n1_ := Aside0.mk (Kd.R_elder' (by (with_reducible repeat (first | apply Kd.R_alloc | apply Kd.R_drewN | apply Kd.R_drew)); exact HO318.out) (Kd.R_base ho0) hb); have n2_ := Aside0.mk (Kd.R_lower (Kd.R_new' (Kd.R_new' ho0 (Kd.R_lt (by (with_reducible repeat (first | apply Kd.R_alloc | apply Kd.R_drewN | apply Kd.R_drew)); exact HO313.out))) (Kd.R_lt (by (with_reducible repeat (first | apply Kd.R_alloc | apply Kd.R_drewN | apply Kd.R_drew)); exact HO318.out))) (below_size (by repeat (first | (with_reducible first | exact HB.out | apply below_alloc | apply pw_below_drewN | apply below_drew1) | exact HB.out)))); have n3_ := Aside0.mk (below_step (by repeat (first | (with_reducible first | exact HB.out | apply below_alloc | apply pw_below_drewN | apply below_drew1) | exact HB.out)) hb); clear HO313; clear HO318; clear HB; have HO313 := n0_; have HO318 := n1_; have HO321 := n2_; have HB := n3_; clear n0_ n1_ n2_ n3_; (try clear hb); (try clear hb2); (try clear hk); (try clear hi); (try clear ho0); obtain ⟨Ao25, co25, eo25⟩ := Kd.R_slice HO318.out; subst eo25; obtain ⟨Ao26, co26, eo26⟩ := Kd.R_slice HO321.out; subst eo26) | (go_at_call 17; (with_reducible refine (pumicelaw02_Texts.calls k _ _ t316 _ _ t319 true _ ?side1 ?side2 ?side3 ?side4 A11.out).mono ?_); (case side1 => repeat (first | exact (Kd.R_reads' HO318.out).2.2 | (with_reducible refine Kd.C_alloc ?_ _) | (with_reducible refine Kd.C_drewN ?_ _) | (with_reducible refine Kd.C_drew ?_))); (case side2 => exact (Kd.R_reads' HO318.out).2.1); (case side3 => repeat (first | exact (Kd.R_reads' HO321.out).2.2 | (with_reducible refine Kd.C_alloc ?_ _) | (with_reducible refine Kd.C_drewN ?_ _) | (with_reducible refine Kd.C_drew ?_))); (case side4 => exact (Kd.R_reads' HO321.out).2.1); rintro e w' ⟨rfl, ⟨nd, rfl⟩⟩) | (go_at_call 17; (with_reducible refine (pumicelaw02_Texts.calls k _ _ y311 _ _ l2 true _ ?side1 ?side2 ?side3 ?side4 A13.out).mono ?_); (case side1 => repeat (first | exact (Kd.R_reads' HO313.out).2.2 | (with_reducible refine Kd.C_alloc ?_ _) | (with_reducible refine Kd.C_drewN ?_ _) | (with_reducible refine Kd.C_drew ?_))); (case side2 => exact (Kd.R_reads' HO313.out).2.1); (case side3 => repeat (first | exact (Kd.C_below HR2.out (by repeat (first | (with_reducible first | exact HB.out | apply below_alloc | apply pw_below_drewN | apply below_drew1) | exact HB.out))) | (with_reducible refine Kd.C_alloc ?_ _) | (with_reducible refine Kd.C_drewN ?_ _) | (with_reducible refine Kd.C_drew ?_))); (case side4 => exact HC2.out); rintro e w' ⟨rfl, ⟨nd, rfl⟩⟩) | (go_at_call 19; (with_reducible refine (names_Within.calls _ _ l2 _ _ l3 t324 _ ?side1 ?side2 ?side3 ?side4 A15.out).mono ?_); (case side1 => repeat (first | exact (Kd.C_below HR2.out (by repeat (first | (with_reducible first | exact HB.out | apply below_alloc | apply pw_below_drewN | apply below_drew1) | exact HB.out))) | (with_reducible refine Kd.C_alloc ?_ _) | (with_reducible refine Kd.C_drewN ?_ _) | (with_reducible refine Kd.C_drew ?_))); (case side2 => exact HC2.out); (case side3 => repeat (first | exact (Kd.C_below HR3.out (by repeat (first | (with_reducible first | exact HB.out | apply below_alloc | apply pw_below_drewN | apply below_drew1) | exact HB.out))) | (with_reducible refine Kd.C_alloc ?_ _) | (with_reducible refine Kd.C_drewN ?_ _) | (with_reducible refine Kd.C_drew ?_))); (case side4 => exact HC3.out); rintro e w27 ⟨rfl, hb⟩; have n0_ := Aside0.mk (Kd.R_below (by (with_reducible repeat (first | apply Kd.R_alloc | apply Kd.R_drewN | apply Kd.R_drew)); exact HO313.out) hb); have n1_ := Aside0.mk (Kd.R_below (by (with_reducible repeat (first | apply Kd.R_alloc | apply Kd.R_drewN | apply Kd.R_drew)); exact HO318.out) hb); have n2_ := Aside0.mk (Kd.R_below (by (with_reducible repeat (first | apply Kd.R_alloc | apply Kd.R_drewN | apply Kd.R_drew)); exact HO321.out) hb); have n3_ := Aside0.mk (below_step (by repeat (first | (with_reducible first | exact HB.out | apply below_alloc | apply pw_below_drewN | apply below_drew1) | exact HB.out)) hb); clear HO313; clear HO318; clear HO321; clear HB; have HO313 := n0_; have HO318 := n1_; have HO321 := n2_; have HB := n3_; clear n0_ n1_ n2_ n3_; (try clear hb); (try clear hb2); (try clear hk); (try clear hi)) | (go_at_call 28; (with_reducible refine (pumiceref02_Within.calls k _ _ l2 _ _ l3 t325 _ ?side1 ?side2 ?side3 ?side4 A16.out).mono ?_); (case side1 => repeat (first | exact (Kd.C_below HR2.out HB.out) | (with_reducible refine Kd.C_alloc ?_ _) | (with_reducible refine Kd.C_drewN ?_ _) | (with_reducible refine Kd.C_drew ?_))); (case side2 => exact HC2.out); (case side3 => repeat (first | exact (Kd.C_below HR3.out HB.out) | (with_reducible refine Kd.C_alloc ?_ _) | (with_reducible refine Kd.C_drewN ?_ _) | (with_reducible refine Kd.C_drew ?_))); (case side4 => exact HC3.out); rintro e w' ⟨rfl, ⟨nd, rfl⟩⟩) | (go_at_call 15; (with_reducible refine (pumicelaw02_alive.calls k  t326 _ A18.out).mono ?_); rintro e w28 ⟨rfl, hb⟩; have n0_ := Aside0.mk (Kd.R_below (by (with_reducible repeat (first | apply Kd.R_alloc | apply Kd.R_drewN | apply Kd.R_drew)); exact HO313.out) hb); have n1_ := Aside0.mk (Kd.R_below (by (with_reducible repeat (first | apply Kd.R_alloc | apply Kd.R_drewN | apply Kd.R_drew)); exact HO318.out) hb); have n2_ := Aside0.mk (Kd.R_below (by (with_reducible repeat (first | apply Kd.R_alloc | apply Kd.R_drewN | apply Kd.R_drew)); exact HO321.out) hb); have n3_ := Aside0.mk (below_step (by repeat (first | (with_reducible first | exact HB.out | apply below_alloc | apply pw_below_drewN | apply below_drew1) | exact HB.out)) hb); clear HO313; clear HO318; clear HO321; clear HB; have HO313 := n0_; have HO318 := n1_; have HO321 := n2_; have HB := n3_; clear n0_ n1_ n2_ n3_; (try clear hb); (try clear hb2); (try clear hk); (try clear hi)))
            go_ret
            exact ⟨by first | rfl | exact isEmpty_bne_ _ | (simp [errW_none, errW_some] <;> rfl) | (simp [*, errW_none, errW_some] <;> rfl), by repeat (first | (with_reducible first | exact HB.out | apply below_alloc | apply pw_below_drewN | apply below_drew1) | exact HB.out)⟩
          · rw [if_neg c17] at H
            exact absurd H (by simp)
        · replace c14 := Bool.eq_false_iff.mpr c14
          subst c14
          have H1 : (none) = some r := by rw [if_neg (show ¬ (false = true) by decide)] at H; exact H
          clear H
          have H := H1
          clear H1
          exact absurd H (by simp)
      · replace c12 := Bool.eq_false_iff.mpr c12
        subst c12
        have H1 : (none) = some r := by rw [if_neg (show ¬ (false = true) by decide)] at H; exact H
        clear H
        have H := H1
        clear H1
        exact absurd H (by simp)
    · rw [if_neg c8] at H
      exact absurd H (by simp)
  · rw [if_neg c5] at H
    exact absurd H (by simp)

end Go.Proofs.YthcooheghekplaaDoor.Q
