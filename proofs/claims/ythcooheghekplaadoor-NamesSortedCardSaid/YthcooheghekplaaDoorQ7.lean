/- Functions of this seat as plain Lean functions, each with the contract that the machine keeps. No condition. Laid by wip/qprint.py. -/
import Derived.Test.YthcooheghekplaaDoorQ0
import Derived.Test.YthcooheghekplaaDoorQ1
import Derived.Test.YthcooheghekplaaDoorQ5
import Derived.Test.YthcooheghekplaaDoorH4
namespace Go.Proofs.YthcooheghekplaaDoor.Q
open Go.RowKit Go.Proofs.YthcooheghekplaaDoorW.PrintWords Go.Proofs.YthcooheghekplaaDoorW.PrintLast Go.Proofs.YthcooheghekplaaDoorW.PrintMore
attribute [local go_sem] max2_int min2_int max_two min_two max_three min_three max_four min_four   -- for this text's walks alone
set_option linter.unusedVariables false
set_option linter.unusedSimpArgs false

/-! ### pumicelaw02_NamesSorted: function 8 -/
mutual
def pumicelaw02_NamesSorted.j0 : Nat → List ByteArray → Bool → Option (Bool)
  | 0, _, _ => none
  | k + 1, x3, x59 => if x59 = true then (none) else ((names_Sort.f x3).bind fun t295 => (if (t295.length : Int) = (x3.length : Int) then (pumicelaw02_NamesSorted.l0 k x3 t295 0) else (none)))
def pumicelaw02_NamesSorted.l0 : Nat → List ByteArray → List ByteArray → Int → Option (Bool)
  | 0, _, _, _ => none
  | k + 1, x3, x9, x10 => if x10 < (x3.length : Int) then (pumicelaw02_NamesSorted.l1 k x3 x9 x10 0 0 0) else ((pumicelaw02_alive.f k).bind fun t298 => (some t298))
def pumicelaw02_NamesSorted.l1 : Nat → List ByteArray → List ByteArray → Int → Int → Int → Int → Option (Bool)
  | 0, _, _, _, _, _, _ => none
  | k + 1, x3, x9, x10, x11, x12, x13 => if x13 < (x3.length : Int) then (if 0 ≤ x13 then (if 0 ≤ x10 then (if x10 < (x3.length : Int) then (if (rdOf ByteArray.empty x3 x13).toList = (rdOf ByteArray.empty x3 x10).toList then (if x13 < (x9.length : Int) then (if (rdOf ByteArray.empty x9 x13).toList = (rdOf ByteArray.empty x3 x10).toList then (pumicelaw02_NamesSorted.l1 k x3 x9 x10 (wrap64 (x11 + 1)) (wrap64 (x12 + 1)) (wrap64 (x13 + 1))) else (pumicelaw02_NamesSorted.l1 k x3 x9 x10 (wrap64 (x11 + 1)) x12 (wrap64 (x13 + 1)))) else (none)) else (if x13 < (x9.length : Int) then (if (rdOf ByteArray.empty x9 x13).toList = (rdOf ByteArray.empty x3 x10).toList then (pumicelaw02_NamesSorted.l1 k x3 x9 x10 x11 (wrap64 (x12 + 1)) (wrap64 (x13 + 1))) else (pumicelaw02_NamesSorted.l1 k x3 x9 x10 x11 x12 (wrap64 (x13 + 1)))) else (none))) else (none)) else (none)) else (none)) else (if x11 = x12 then (if x10 > 0 then (if 0 ≤ x10 then (if x10 < (x9.length : Int) then (if 0 ≤ (wrap64 (x10 - 1)) then (if (wrap64 (x10 - 1)) < (x9.length : Int) then ((names_Less.f (rdOf ByteArray.empty x9 x10) (rdOf ByteArray.empty x9 (wrap64 (x10 - 1)))).bind fun t301 => (if t301 = true then (none) else (pumicelaw02_NamesSorted.l0 k x3 x9 (wrap64 (x10 + 1))))) else (none)) else (none)) else (none)) else (none)) else (pumicelaw02_NamesSorted.l0 k x3 x9 (wrap64 (x10 + 1)))) else (none))
end
def pumicelaw02_NamesSorted.f (k : Nat) (a0 : ByteArray) (a1 : ByteArray) (a2 : ByteArray) (l3 : List ByteArray) : Option (Bool) := (names_Less.f a0 a1).bind fun t269 => (if t269 = true then ((names_Less.f a1 a0).bind fun t270 => (if t270 = true then (pumicelaw02_NamesSorted.j0 k l3 true) else ((names_Less.f a0 a0).bind fun t271 => (if t271 = true then (pumicelaw02_NamesSorted.j0 k l3 true) else (if a0.toList = a1.toList then ((names_Less.f a0 a1).bind fun t272 => (if t272 = true then ((names_Less.f a1 a2).bind fun t273 => (if t273 = true then ((names_Less.f a0 a2).bind fun t274 => (pumicelaw02_NamesSorted.j0 k l3 (!t274))) else (pumicelaw02_NamesSorted.j0 k l3 false))) else (pumicelaw02_NamesSorted.j0 k l3 false))) else ((names_Less.f a0 a1).bind fun t275 => (if t275 = true then ((names_Less.f a0 a1).bind fun t276 => (if t276 = true then ((names_Less.f a1 a2).bind fun t277 => (if t277 = true then ((names_Less.f a0 a2).bind fun t278 => (pumicelaw02_NamesSorted.j0 k l3 (!t278))) else (pumicelaw02_NamesSorted.j0 k l3 false))) else (pumicelaw02_NamesSorted.j0 k l3 false))) else ((names_Less.f a1 a0).bind fun t279 => (if t279 = true then ((names_Less.f a0 a1).bind fun t280 => (if t280 = true then ((names_Less.f a1 a2).bind fun t281 => (if t281 = true then ((names_Less.f a0 a2).bind fun t282 => (pumicelaw02_NamesSorted.j0 k l3 (!t282))) else (pumicelaw02_NamesSorted.j0 k l3 false))) else (pumicelaw02_NamesSorted.j0 k l3 false))) else (pumicelaw02_NamesSorted.j0 k l3 true)))))))))) else ((names_Less.f a0 a0).bind fun t283 => (if t283 = true then (pumicelaw02_NamesSorted.j0 k l3 true) else (if a0.toList = a1.toList then ((names_Less.f a0 a1).bind fun t284 => (if t284 = true then ((names_Less.f a1 a2).bind fun t285 => (if t285 = true then ((names_Less.f a0 a2).bind fun t286 => (pumicelaw02_NamesSorted.j0 k l3 (!t286))) else (pumicelaw02_NamesSorted.j0 k l3 false))) else (pumicelaw02_NamesSorted.j0 k l3 false))) else ((names_Less.f a0 a1).bind fun t287 => (if t287 = true then ((names_Less.f a0 a1).bind fun t288 => (if t288 = true then ((names_Less.f a1 a2).bind fun t289 => (if t289 = true then ((names_Less.f a0 a2).bind fun t290 => (pumicelaw02_NamesSorted.j0 k l3 (!t290))) else (pumicelaw02_NamesSorted.j0 k l3 false))) else (pumicelaw02_NamesSorted.j0 k l3 false))) else ((names_Less.f a1 a0).bind fun t291 => (if t291 = true then ((names_Less.f a0 a1).bind fun t292 => (if t292 = true then ((names_Less.f a1 a2).bind fun t293 => (if t293 = true then ((names_Less.f a0 a2).bind fun t294 => (pumicelaw02_NamesSorted.j0 k l3 (!t294))) else (pumicelaw02_NamesSorted.j0 k l3 false))) else (pumicelaw02_NamesSorted.j0 k l3 false))) else (pumicelaw02_NamesSorted.j0 k l3 true)))))))))
theorem pumicelaw02_NamesSorted.mono_l : ∀ k, (∀ y0 y1, LeO (pumicelaw02_NamesSorted.j0 k y0 y1) (pumicelaw02_NamesSorted.j0 (k + 1) y0 y1)) ∧ (∀ y0 y1 y2, LeO (pumicelaw02_NamesSorted.l0 k y0 y1 y2) (pumicelaw02_NamesSorted.l0 (k + 1) y0 y1 y2)) ∧ (∀ y0 y1 y2 y3 y4 y5, LeO (pumicelaw02_NamesSorted.l1 k y0 y1 y2 y3 y4 y5) (pumicelaw02_NamesSorted.l1 (k + 1) y0 y1 y2 y3 y4 y5))
  | 0 => ⟨fun _ _ r h => by simp [pumicelaw02_NamesSorted.j0] at h, fun _ _ _ r h => by simp [pumicelaw02_NamesSorted.l0] at h, fun _ _ _ _ _ _ r h => by simp [pumicelaw02_NamesSorted.l1] at h⟩
  | k + 1 => by
    obtain ⟨ih0, ih1, ih2⟩ := pumicelaw02_NamesSorted.mono_l k
    refine ⟨?_, ?_, ?_⟩
    · intro y0 y1
      unfold pumicelaw02_NamesSorted.j0
      repeat' first
      | (with_reducible exact ih0 _ _)
      | (with_reducible exact ih1 _ _ _)
      | (with_reducible exact ih2 _ _ _ _ _ _)
      | (with_reducible exact pumicelaw02_alive.mono _)
      | (with_reducible exact LeO.refl _)
      | (with_reducible exact LeO.none _)
      | (with_reducible refine LeO.ite ?_ ?_)
      | (with_reducible refine LeO.bind ?_ (fun _ => ?_))
      | exact ih0 _ _
      | exact ih1 _ _ _
      | exact ih2 _ _ _ _ _ _
      | exact pumicelaw02_alive.mono _
      | exact LeO.none _
      | refine LeO.ite ?_ ?_
      | refine LeO.bind ?_ (fun _ => ?_)
    · intro y0 y1 y2
      unfold pumicelaw02_NamesSorted.l0
      repeat' first
      | (with_reducible exact ih0 _ _)
      | (with_reducible exact ih1 _ _ _)
      | (with_reducible exact ih2 _ _ _ _ _ _)
      | (with_reducible exact pumicelaw02_alive.mono _)
      | (with_reducible exact LeO.refl _)
      | (with_reducible exact LeO.none _)
      | (with_reducible refine LeO.ite ?_ ?_)
      | (with_reducible refine LeO.bind ?_ (fun _ => ?_))
      | exact ih0 _ _
      | exact ih1 _ _ _
      | exact ih2 _ _ _ _ _ _
      | exact pumicelaw02_alive.mono _
      | exact LeO.none _
      | refine LeO.ite ?_ ?_
      | refine LeO.bind ?_ (fun _ => ?_)
    · intro y0 y1 y2 y3 y4 y5
      unfold pumicelaw02_NamesSorted.l1
      repeat' first
      | (with_reducible exact ih0 _ _)
      | (with_reducible exact ih1 _ _ _)
      | (with_reducible exact ih2 _ _ _ _ _ _)
      | (with_reducible exact pumicelaw02_alive.mono _)
      | (with_reducible exact LeO.refl _)
      | (with_reducible exact LeO.none _)
      | (with_reducible refine LeO.ite ?_ ?_)
      | (with_reducible refine LeO.bind ?_ (fun _ => ?_))
      | exact ih0 _ _
      | exact ih1 _ _ _
      | exact ih2 _ _ _ _ _ _
      | exact pumicelaw02_alive.mono _
      | exact LeO.none _
      | refine LeO.ite ?_ ?_
      | refine LeO.bind ?_ (fun _ => ?_)
theorem pumicelaw02_NamesSorted.mono : ∀ a0 a1 a2 a3 k, LeO (pumicelaw02_NamesSorted.f k a0 a1 a2 a3) (pumicelaw02_NamesSorted.f (k + 1) a0 a1 a2 a3) := by
  intro a0 a1 a2 a3 k
  obtain ⟨ih0, ih1, ih2⟩ := pumicelaw02_NamesSorted.mono_l k
  unfold pumicelaw02_NamesSorted.f
  repeat' first
      | (with_reducible exact ih0 _ _)
      | (with_reducible exact ih1 _ _ _)
      | (with_reducible exact ih2 _ _ _ _ _ _)
      | (with_reducible exact pumicelaw02_alive.mono _)
      | (with_reducible exact LeO.refl _)
      | (with_reducible exact LeO.none _)
      | (with_reducible refine LeO.ite ?_ ?_)
      | (with_reducible refine LeO.bind ?_ (fun _ => ?_))
      | exact ih0 _ _
      | exact ih1 _ _ _
      | exact ih2 _ _ _ _ _ _
      | exact pumicelaw02_alive.mono _
      | exact LeO.none _
      | refine LeO.ite ?_ ?_
      | refine LeO.bind ?_ (fun _ => ?_)
set_option maxHeartbeats 8000000 in
set_option maxRecDepth 100000 in
theorem pumicelaw02_NamesSorted.calls (k : Nat) (a0 : ByteArray) (a1 : ByteArray) (a2 : ByteArray) (A3 : Option Addr) (c3 : Nat) (l3 : List ByteArray) (r : Bool) (w : World) (hr3 : Kd.C Kd.string w A3 l3.length l3) (hc3 : l3.length ≤ c3) (h : pumicelaw02_NamesSorted.f k a0 a1 a2 l3 = some r) :
    Calls Tryd.prog 8 #[.string a0, .string a1, .string a2, .slice A3 l3.length c3] w fun e w' => e = .returned (.bool r) ∧ Below w.heap.size w w' := by
  have HR3 := Aside0.mk hr3
  have HC3 := Aside0.mk hc3
  clear hr3 hc3
  have HB := Aside0.mk (Below.refl w.heap.size w)
  have H : ((names_Less.f a0 a1).bind fun t269 => (if t269 = true then ((names_Less.f a1 a0).bind fun t270 => (if t270 = true then (pumicelaw02_NamesSorted.j0 k l3 true) else ((names_Less.f a0 a0).bind fun t271 => (if t271 = true then (pumicelaw02_NamesSorted.j0 k l3 true) else (if a0.toList = a1.toList then ((names_Less.f a0 a1).bind fun t272 => (if t272 = true then ((names_Less.f a1 a2).bind fun t273 => (if t273 = true then ((names_Less.f a0 a2).bind fun t274 => (pumicelaw02_NamesSorted.j0 k l3 (!t274))) else (pumicelaw02_NamesSorted.j0 k l3 false))) else (pumicelaw02_NamesSorted.j0 k l3 false))) else ((names_Less.f a0 a1).bind fun t275 => (if t275 = true then ((names_Less.f a0 a1).bind fun t276 => (if t276 = true then ((names_Less.f a1 a2).bind fun t277 => (if t277 = true then ((names_Less.f a0 a2).bind fun t278 => (pumicelaw02_NamesSorted.j0 k l3 (!t278))) else (pumicelaw02_NamesSorted.j0 k l3 false))) else (pumicelaw02_NamesSorted.j0 k l3 false))) else ((names_Less.f a1 a0).bind fun t279 => (if t279 = true then ((names_Less.f a0 a1).bind fun t280 => (if t280 = true then ((names_Less.f a1 a2).bind fun t281 => (if t281 = true then ((names_Less.f a0 a2).bind fun t282 => (pumicelaw02_NamesSorted.j0 k l3 (!t282))) else (pumicelaw02_NamesSorted.j0 k l3 false))) else (pumicelaw02_NamesSorted.j0 k l3 false))) else (pumicelaw02_NamesSorted.j0 k l3 true)))))))))) else ((names_Less.f a0 a0).bind fun t283 => (if t283 = true then (pumicelaw02_NamesSorted.j0 k l3 true) else (if a0.toList = a1.toList then ((names_Less.f a0 a1).bind fun t284 => (if t284 = true then ((names_Less.f a1 a2).bind fun t285 => (if t285 = true then ((names_Less.f a0 a2).bind fun t286 => (pumicelaw02_NamesSorted.j0 k l3 (!t286))) else (pumicelaw02_NamesSorted.j0 k l3 false))) else (pumicelaw02_NamesSorted.j0 k l3 false))) else ((names_Less.f a0 a1).bind fun t287 => (if t287 = true then ((names_Less.f a0 a1).bind fun t288 => (if t288 = true then ((names_Less.f a1 a2).bind fun t289 => (if t289 = true then ((names_Less.f a0 a2).bind fun t290 => (pumicelaw02_NamesSorted.j0 k l3 (!t290))) else (pumicelaw02_NamesSorted.j0 k l3 false))) else (pumicelaw02_NamesSorted.j0 k l3 false))) else ((names_Less.f a1 a0).bind fun t291 => (if t291 = true then ((names_Less.f a0 a1).bind fun t292 => (if t292 = true then ((names_Less.f a1 a2).bind fun t293 => (if t293 = true then ((names_Less.f a0 a2).bind fun t294 => (pumicelaw02_NamesSorted.j0 k l3 (!t294))) else (pumicelaw02_NamesSorted.j0 k l3 false))) else (pumicelaw02_NamesSorted.j0 k l3 false))) else (pumicelaw02_NamesSorted.j0 k l3 true)))))))))) = some r := h
  clear h
  have HC5 := Aside0.mk H
  clear H
  go_enter Tryd.func8, Tryd.ntmps8
  go_upto_region 1 with (fail)
  repeat (go_quiet (fail); go_upto_region 1 with (fail))
  go_cut [59] (fun v59 wc => ∃ (kq : Nat) (x59_4 : Bool), v59 = .bool x59_4 ∧ Aside0 (pumicelaw02_NamesSorted.j0 kq l3 x59_4 = some r) ∧ Aside0 (kq ≤ k) ∧ Aside0 (Below w.heap.size w wc))
  case first =>
    have H := HC5.out
    clear HC5
    replace H := Option.bind_eq_some_iff.mp H
    obtain ⟨t269, A60, H⟩ := H
    replace H : (if t269 = true then ((names_Less.f a1 a0).bind fun t270 => (if t270 = true then (pumicelaw02_NamesSorted.j0 k l3 true) else ((names_Less.f a0 a0).bind fun t271 => (if t271 = true then (pumicelaw02_NamesSorted.j0 k l3 true) else (if a0.toList = a1.toList then ((names_Less.f a0 a1).bind fun t272 => (if t272 = true then ((names_Less.f a1 a2).bind fun t273 => (if t273 = true then ((names_Less.f a0 a2).bind fun t274 => (pumicelaw02_NamesSorted.j0 k l3 (!t274))) else (pumicelaw02_NamesSorted.j0 k l3 false))) else (pumicelaw02_NamesSorted.j0 k l3 false))) else ((names_Less.f a0 a1).bind fun t275 => (if t275 = true then ((names_Less.f a0 a1).bind fun t276 => (if t276 = true then ((names_Less.f a1 a2).bind fun t277 => (if t277 = true then ((names_Less.f a0 a2).bind fun t278 => (pumicelaw02_NamesSorted.j0 k l3 (!t278))) else (pumicelaw02_NamesSorted.j0 k l3 false))) else (pumicelaw02_NamesSorted.j0 k l3 false))) else ((names_Less.f a1 a0).bind fun t279 => (if t279 = true then ((names_Less.f a0 a1).bind fun t280 => (if t280 = true then ((names_Less.f a1 a2).bind fun t281 => (if t281 = true then ((names_Less.f a0 a2).bind fun t282 => (pumicelaw02_NamesSorted.j0 k l3 (!t282))) else (pumicelaw02_NamesSorted.j0 k l3 false))) else (pumicelaw02_NamesSorted.j0 k l3 false))) else (pumicelaw02_NamesSorted.j0 k l3 true)))))))))) else ((names_Less.f a0 a0).bind fun t283 => (if t283 = true then (pumicelaw02_NamesSorted.j0 k l3 true) else (if a0.toList = a1.toList then ((names_Less.f a0 a1).bind fun t284 => (if t284 = true then ((names_Less.f a1 a2).bind fun t285 => (if t285 = true then ((names_Less.f a0 a2).bind fun t286 => (pumicelaw02_NamesSorted.j0 k l3 (!t286))) else (pumicelaw02_NamesSorted.j0 k l3 false))) else (pumicelaw02_NamesSorted.j0 k l3 false))) else ((names_Less.f a0 a1).bind fun t287 => (if t287 = true then ((names_Less.f a0 a1).bind fun t288 => (if t288 = true then ((names_Less.f a1 a2).bind fun t289 => (if t289 = true then ((names_Less.f a0 a2).bind fun t290 => (pumicelaw02_NamesSorted.j0 k l3 (!t290))) else (pumicelaw02_NamesSorted.j0 k l3 false))) else (pumicelaw02_NamesSorted.j0 k l3 false))) else ((names_Less.f a1 a0).bind fun t291 => (if t291 = true then ((names_Less.f a0 a1).bind fun t292 => (if t292 = true then ((names_Less.f a1 a2).bind fun t293 => (if t293 = true then ((names_Less.f a0 a2).bind fun t294 => (pumicelaw02_NamesSorted.j0 k l3 (!t294))) else (pumicelaw02_NamesSorted.j0 k l3 false))) else (pumicelaw02_NamesSorted.j0 k l3 false))) else (pumicelaw02_NamesSorted.j0 k l3 true))))))))) = some r := H
    have A6 := Aside0.mk A60
    clear A60
    by_cases c7 : t269 = true
    · subst c7
      have H1 : ((names_Less.f a1 a0).bind fun t270 => (if t270 = true then (pumicelaw02_NamesSorted.j0 k l3 true) else ((names_Less.f a0 a0).bind fun t271 => (if t271 = true then (pumicelaw02_NamesSorted.j0 k l3 true) else (if a0.toList = a1.toList then ((names_Less.f a0 a1).bind fun t272 => (if t272 = true then ((names_Less.f a1 a2).bind fun t273 => (if t273 = true then ((names_Less.f a0 a2).bind fun t274 => (pumicelaw02_NamesSorted.j0 k l3 (!t274))) else (pumicelaw02_NamesSorted.j0 k l3 false))) else (pumicelaw02_NamesSorted.j0 k l3 false))) else ((names_Less.f a0 a1).bind fun t275 => (if t275 = true then ((names_Less.f a0 a1).bind fun t276 => (if t276 = true then ((names_Less.f a1 a2).bind fun t277 => (if t277 = true then ((names_Less.f a0 a2).bind fun t278 => (pumicelaw02_NamesSorted.j0 k l3 (!t278))) else (pumicelaw02_NamesSorted.j0 k l3 false))) else (pumicelaw02_NamesSorted.j0 k l3 false))) else ((names_Less.f a1 a0).bind fun t279 => (if t279 = true then ((names_Less.f a0 a1).bind fun t280 => (if t280 = true then ((names_Less.f a1 a2).bind fun t281 => (if t281 = true then ((names_Less.f a0 a2).bind fun t282 => (pumicelaw02_NamesSorted.j0 k l3 (!t282))) else (pumicelaw02_NamesSorted.j0 k l3 false))) else (pumicelaw02_NamesSorted.j0 k l3 false))) else (pumicelaw02_NamesSorted.j0 k l3 true)))))))))) = some r := by rw [if_pos rfl] at H; exact H
      clear H
      have H := H1
      clear H1
      replace H := Option.bind_eq_some_iff.mp H
      obtain ⟨t270, A80, H⟩ := H
      replace H : (if t270 = true then (pumicelaw02_NamesSorted.j0 k l3 true) else ((names_Less.f a0 a0).bind fun t271 => (if t271 = true then (pumicelaw02_NamesSorted.j0 k l3 true) else (if a0.toList = a1.toList then ((names_Less.f a0 a1).bind fun t272 => (if t272 = true then ((names_Less.f a1 a2).bind fun t273 => (if t273 = true then ((names_Less.f a0 a2).bind fun t274 => (pumicelaw02_NamesSorted.j0 k l3 (!t274))) else (pumicelaw02_NamesSorted.j0 k l3 false))) else (pumicelaw02_NamesSorted.j0 k l3 false))) else ((names_Less.f a0 a1).bind fun t275 => (if t275 = true then ((names_Less.f a0 a1).bind fun t276 => (if t276 = true then ((names_Less.f a1 a2).bind fun t277 => (if t277 = true then ((names_Less.f a0 a2).bind fun t278 => (pumicelaw02_NamesSorted.j0 k l3 (!t278))) else (pumicelaw02_NamesSorted.j0 k l3 false))) else (pumicelaw02_NamesSorted.j0 k l3 false))) else ((names_Less.f a1 a0).bind fun t279 => (if t279 = true then ((names_Less.f a0 a1).bind fun t280 => (if t280 = true then ((names_Less.f a1 a2).bind fun t281 => (if t281 = true then ((names_Less.f a0 a2).bind fun t282 => (pumicelaw02_NamesSorted.j0 k l3 (!t282))) else (pumicelaw02_NamesSorted.j0 k l3 false))) else (pumicelaw02_NamesSorted.j0 k l3 false))) else (pumicelaw02_NamesSorted.j0 k l3 true))))))))) = some r := H
      have A8 := Aside0.mk A80
      clear A80
      by_cases c9 : t270 = true
      · subst c9
        have H1 : (pumicelaw02_NamesSorted.j0 k l3 true) = some r := by rw [if_pos rfl] at H; exact H
        clear H
        have H := H1
        clear H1
        have H' := Aside0.mk H
        clear H
        go_wp2_with (first | (go_at_call 24; (with_reducible refine (names_Less.calls a0 a1 true _ A6.out).mono ?_); rintro e w' ⟨rfl, ⟨nd, rfl⟩⟩; (try first | exact ⟨rfl, _, World.drewN_drewN _ _ _⟩ | exact ⟨rfl, _, Eq.trans (World.drewN_drewN _ _ _) (congrArg (World.drewN _) (Nat.add_assoc _ _ _))⟩)) | (go_at_call 24; (with_reducible refine (names_Less.calls a1 a0 true _ A8.out).mono ?_); rintro e w' ⟨rfl, ⟨nd, rfl⟩⟩; (try first | exact ⟨rfl, _, World.drewN_drewN _ _ _⟩ | exact ⟨rfl, _, Eq.trans (World.drewN_drewN _ _ _) (congrArg (World.drewN _) (Nat.add_assoc _ _ _))⟩)))
        repeat (go_quiet (first | (go_at_call 24; (with_reducible refine (names_Less.calls a0 a1 true _ A6.out).mono ?_); rintro e w' ⟨rfl, ⟨nd, rfl⟩⟩; (try first | exact ⟨rfl, _, World.drewN_drewN _ _ _⟩ | exact ⟨rfl, _, Eq.trans (World.drewN_drewN _ _ _) (congrArg (World.drewN _) (Nat.add_assoc _ _ _))⟩)) | (go_at_call 24; (with_reducible refine (names_Less.calls a1 a0 true _ A8.out).mono ?_); rintro e w' ⟨rfl, ⟨nd, rfl⟩⟩; (try first | exact ⟨rfl, _, World.drewN_drewN _ _ _⟩ | exact ⟨rfl, _, Eq.trans (World.drewN_drewN _ _ _) (congrArg (World.drewN _) (Nat.add_assoc _ _ _))⟩))); try go_wp2_with (first | (go_at_call 24; (with_reducible refine (names_Less.calls a0 a1 true _ A6.out).mono ?_); rintro e w' ⟨rfl, ⟨nd, rfl⟩⟩; (try first | exact ⟨rfl, _, World.drewN_drewN _ _ _⟩ | exact ⟨rfl, _, Eq.trans (World.drewN_drewN _ _ _) (congrArg (World.drewN _) (Nat.add_assoc _ _ _))⟩)) | (go_at_call 24; (with_reducible refine (names_Less.calls a1 a0 true _ A8.out).mono ?_); rintro e w' ⟨rfl, ⟨nd, rfl⟩⟩; (try first | exact ⟨rfl, _, World.drewN_drewN _ _ _⟩ | exact ⟨rfl, _, Eq.trans (World.drewN_drewN _ _ _) (congrArg (World.drewN _) (Nat.add_assoc _ _ _))⟩))))
        go_meet
        case rel => exact ⟨_, (true), (by first | rfl | (simp; done) | (simp [*]; done) | (simp [wrap64]; done)), H', ⟨by first | omega | exact Nat.le_refl _⟩, ⟨by repeat (first | (with_reducible first | exact HB.out | apply below_alloc | apply pw_below_drewN | apply below_drew1) | exact HB.out)⟩⟩
      · replace c9 := Bool.eq_false_iff.mpr c9
        subst c9
        have H1 : ((names_Less.f a0 a0).bind fun t271 => (if t271 = true then (pumicelaw02_NamesSorted.j0 k l3 true) else (if a0.toList = a1.toList then ((names_Less.f a0 a1).bind fun t272 => (if t272 = true then ((names_Less.f a1 a2).bind fun t273 => (if t273 = true then ((names_Less.f a0 a2).bind fun t274 => (pumicelaw02_NamesSorted.j0 k l3 (!t274))) else (pumicelaw02_NamesSorted.j0 k l3 false))) else (pumicelaw02_NamesSorted.j0 k l3 false))) else ((names_Less.f a0 a1).bind fun t275 => (if t275 = true then ((names_Less.f a0 a1).bind fun t276 => (if t276 = true then ((names_Less.f a1 a2).bind fun t277 => (if t277 = true then ((names_Less.f a0 a2).bind fun t278 => (pumicelaw02_NamesSorted.j0 k l3 (!t278))) else (pumicelaw02_NamesSorted.j0 k l3 false))) else (pumicelaw02_NamesSorted.j0 k l3 false))) else ((names_Less.f a1 a0).bind fun t279 => (if t279 = true then ((names_Less.f a0 a1).bind fun t280 => (if t280 = true then ((names_Less.f a1 a2).bind fun t281 => (if t281 = true then ((names_Less.f a0 a2).bind fun t282 => (pumicelaw02_NamesSorted.j0 k l3 (!t282))) else (pumicelaw02_NamesSorted.j0 k l3 false))) else (pumicelaw02_NamesSorted.j0 k l3 false))) else (pumicelaw02_NamesSorted.j0 k l3 true)))))))) = some r := by rw [if_neg (show ¬ (false = true) by decide)] at H; exact H
        clear H
        have H := H1
        clear H1
        replace H := Option.bind_eq_some_iff.mp H
        obtain ⟨t271, A100, H⟩ := H
        replace H : (if t271 = true then (pumicelaw02_NamesSorted.j0 k l3 true) else (if a0.toList = a1.toList then ((names_Less.f a0 a1).bind fun t272 => (if t272 = true then ((names_Less.f a1 a2).bind fun t273 => (if t273 = true then ((names_Less.f a0 a2).bind fun t274 => (pumicelaw02_NamesSorted.j0 k l3 (!t274))) else (pumicelaw02_NamesSorted.j0 k l3 false))) else (pumicelaw02_NamesSorted.j0 k l3 false))) else ((names_Less.f a0 a1).bind fun t275 => (if t275 = true then ((names_Less.f a0 a1).bind fun t276 => (if t276 = true then ((names_Less.f a1 a2).bind fun t277 => (if t277 = true then ((names_Less.f a0 a2).bind fun t278 => (pumicelaw02_NamesSorted.j0 k l3 (!t278))) else (pumicelaw02_NamesSorted.j0 k l3 false))) else (pumicelaw02_NamesSorted.j0 k l3 false))) else ((names_Less.f a1 a0).bind fun t279 => (if t279 = true then ((names_Less.f a0 a1).bind fun t280 => (if t280 = true then ((names_Less.f a1 a2).bind fun t281 => (if t281 = true then ((names_Less.f a0 a2).bind fun t282 => (pumicelaw02_NamesSorted.j0 k l3 (!t282))) else (pumicelaw02_NamesSorted.j0 k l3 false))) else (pumicelaw02_NamesSorted.j0 k l3 false))) else (pumicelaw02_NamesSorted.j0 k l3 true))))))) = some r := H
        have A10 := Aside0.mk A100
        clear A100
        by_cases c11 : t271 = true
        · subst c11
          have H1 : (pumicelaw02_NamesSorted.j0 k l3 true) = some r := by rw [if_pos rfl] at H; exact H
          clear H
          have H := H1
          clear H1
          have H' := Aside0.mk H
          clear H
          go_wp2_with (first | (go_at_call 24; (with_reducible refine (names_Less.calls a0 a1 true _ A6.out).mono ?_); rintro e w' ⟨rfl, ⟨nd, rfl⟩⟩; (try first | exact ⟨rfl, _, World.drewN_drewN _ _ _⟩ | exact ⟨rfl, _, Eq.trans (World.drewN_drewN _ _ _) (congrArg (World.drewN _) (Nat.add_assoc _ _ _))⟩)) | (go_at_call 24; (with_reducible refine (names_Less.calls a1 a0 false _ A8.out).mono ?_); rintro e w' ⟨rfl, ⟨nd, rfl⟩⟩; (try first | exact ⟨rfl, _, World.drewN_drewN _ _ _⟩ | exact ⟨rfl, _, Eq.trans (World.drewN_drewN _ _ _) (congrArg (World.drewN _) (Nat.add_assoc _ _ _))⟩)) | (go_at_call 24; (with_reducible refine (names_Less.calls a0 a0 true _ A10.out).mono ?_); rintro e w' ⟨rfl, ⟨nd, rfl⟩⟩; (try first | exact ⟨rfl, _, World.drewN_drewN _ _ _⟩ | exact ⟨rfl, _, Eq.trans (World.drewN_drewN _ _ _) (congrArg (World.drewN _) (Nat.add_assoc _ _ _))⟩)))
          repeat (go_quiet (first | (go_at_call 24; (with_reducible refine (names_Less.calls a0 a1 true _ A6.out).mono ?_); rintro e w' ⟨rfl, ⟨nd, rfl⟩⟩; (try first | exact ⟨rfl, _, World.drewN_drewN _ _ _⟩ | exact ⟨rfl, _, Eq.trans (World.drewN_drewN _ _ _) (congrArg (World.drewN _) (Nat.add_assoc _ _ _))⟩)) | (go_at_call 24; (with_reducible refine (names_Less.calls a1 a0 false _ A8.out).mono ?_); rintro e w' ⟨rfl, ⟨nd, rfl⟩⟩; (try first | exact ⟨rfl, _, World.drewN_drewN _ _ _⟩ | exact ⟨rfl, _, Eq.trans (World.drewN_drewN _ _ _) (congrArg (World.drewN _) (Nat.add_assoc _ _ _))⟩)) | (go_at_call 24; (with_reducible refine (names_Less.calls a0 a0 true _ A10.out).mono ?_); rintro e w' ⟨rfl, ⟨nd, rfl⟩⟩; (try first | exact ⟨rfl, _, World.drewN_drewN _ _ _⟩ | exact ⟨rfl, _, Eq.trans (World.drewN_drewN _ _ _) (congrArg (World.drewN _) (Nat.add_assoc _ _ _))⟩))); try go_wp2_with (first | (go_at_call 24; (with_reducible refine (names_Less.calls a0 a1 true _ A6.out).mono ?_); rintro e w' ⟨rfl, ⟨nd, rfl⟩⟩; (try first | exact ⟨rfl, _, World.drewN_drewN _ _ _⟩ | exact ⟨rfl, _, Eq.trans (World.drewN_drewN _ _ _) (congrArg (World.drewN _) (Nat.add_assoc _ _ _))⟩)) | (go_at_call 24; (with_reducible refine (names_Less.calls a1 a0 false _ A8.out).mono ?_); rintro e w' ⟨rfl, ⟨nd, rfl⟩⟩; (try first | exact ⟨rfl, _, World.drewN_drewN _ _ _⟩ | exact ⟨rfl, _, Eq.trans (World.drewN_drewN _ _ _) (congrArg (World.drewN _) (Nat.add_assoc _ _ _))⟩)) | (go_at_call 24; (with_reducible refine (names_Less.calls a0 a0 true _ A10.out).mono ?_); rintro e w' ⟨rfl, ⟨nd, rfl⟩⟩; (try first | exact ⟨rfl, _, World.drewN_drewN _ _ _⟩ | exact ⟨rfl, _, Eq.trans (World.drewN_drewN _ _ _) (congrArg (World.drewN _) (Nat.add_assoc _ _ _))⟩))))
          go_meet
          case rel => exact ⟨_, (true), (by first | rfl | (simp; done) | (simp [*]; done) | (simp [wrap64]; done)), H', ⟨by first | omega | exact Nat.le_refl _⟩, ⟨by repeat (first | (with_reducible first | exact HB.out | apply below_alloc | apply pw_below_drewN | apply below_drew1) | exact HB.out)⟩⟩
        · replace c11 := Bool.eq_false_iff.mpr c11
          subst c11
          have H1 : (if a0.toList = a1.toList then ((names_Less.f a0 a1).bind fun t272 => (if t272 = true then ((names_Less.f a1 a2).bind fun t273 => (if t273 = true then ((names_Less.f a0 a2).bind fun t274 => (pumicelaw02_NamesSorted.j0 k l3 (!t274))) else (pumicelaw02_NamesSorted.j0 k l3 false))) else (pumicelaw02_NamesSorted.j0 k l3 false))) else ((names_Less.f a0 a1).bind fun t275 => (if t275 = true then ((names_Less.f a0 a1).bind fun t276 => (if t276 = true then ((names_Less.f a1 a2).bind fun t277 => (if t277 = true then ((names_Less.f a0 a2).bind fun t278 => (pumicelaw02_NamesSorted.j0 k l3 (!t278))) else (pumicelaw02_NamesSorted.j0 k l3 false))) else (pumicelaw02_NamesSorted.j0 k l3 false))) else ((names_Less.f a1 a0).bind fun t279 => (if t279 = true then ((names_Less.f a0 a1).bind fun t280 => (if t280 = true then ((names_Less.f a1 a2).bind fun t281 => (if t281 = true then ((names_Less.f a0 a2).bind fun t282 => (pumicelaw02_NamesSorted.j0 k l3 (!t282))) else (pumicelaw02_NamesSorted.j0 k l3 false))) else (pumicelaw02_NamesSorted.j0 k l3 false))) else (pumicelaw02_NamesSorted.j0 k l3 true)))))) = some r := by rw [if_neg (show ¬ (false = true) by decide)] at H; exact H
          clear H
          have H := H1
          clear H1
          by_cases c12 : a0.toList = a1.toList
          · rw [if_pos c12] at H
            have c12b0 : (a0.toList == a1.toList) = true := beq_iff_eq.mpr c12
            have c12b1 : (a0.toList != a1.toList) = false := bne_eq_false_iff_eq.mpr c12
            clear c12
            (first | rw [c12b0] | (simp only [i64_w, i32_w]; rw [c12b0]) | skip)
            replace H := Option.bind_eq_some_iff.mp H
            obtain ⟨t272, A130, H⟩ := H
            replace H : (if t272 = true then ((names_Less.f a1 a2).bind fun t273 => (if t273 = true then ((names_Less.f a0 a2).bind fun t274 => (pumicelaw02_NamesSorted.j0 k l3 (!t274))) else (pumicelaw02_NamesSorted.j0 k l3 false))) else (pumicelaw02_NamesSorted.j0 k l3 false)) = some r := H
            have A13 := Aside0.mk A130
            clear A130
            by_cases c14 : t272 = true
            · subst c14
              have H1 : ((names_Less.f a1 a2).bind fun t273 => (if t273 = true then ((names_Less.f a0 a2).bind fun t274 => (pumicelaw02_NamesSorted.j0 k l3 (!t274))) else (pumicelaw02_NamesSorted.j0 k l3 false))) = some r := by rw [if_pos rfl] at H; exact H
              clear H
              have H := H1
              clear H1
              replace H := Option.bind_eq_some_iff.mp H
              obtain ⟨t273, A150, H⟩ := H
              replace H : (if t273 = true then ((names_Less.f a0 a2).bind fun t274 => (pumicelaw02_NamesSorted.j0 k l3 (!t274))) else (pumicelaw02_NamesSorted.j0 k l3 false)) = some r := H
              have A15 := Aside0.mk A150
              clear A150
              by_cases c16 : t273 = true
              · subst c16
                have H1 : ((names_Less.f a0 a2).bind fun t274 => (pumicelaw02_NamesSorted.j0 k l3 (!t274))) = some r := by rw [if_pos rfl] at H; exact H
                clear H
                have H := H1
                clear H1
                replace H := Option.bind_eq_some_iff.mp H
                obtain ⟨t274, A170, H⟩ := H
                replace H : (pumicelaw02_NamesSorted.j0 k l3 (!t274)) = some r := H
                have A17 := Aside0.mk A170
                clear A170
                have H' := Aside0.mk H
                clear H
                go_wp2_with (first | (go_at_call 24; (with_reducible refine (names_Less.calls a0 a1 true _ A6.out).mono ?_); rintro e w' ⟨rfl, ⟨nd, rfl⟩⟩; (try first | exact ⟨rfl, _, World.drewN_drewN _ _ _⟩ | exact ⟨rfl, _, Eq.trans (World.drewN_drewN _ _ _) (congrArg (World.drewN _) (Nat.add_assoc _ _ _))⟩)) | (go_at_call 24; (with_reducible refine (names_Less.calls a1 a0 false _ A8.out).mono ?_); rintro e w' ⟨rfl, ⟨nd, rfl⟩⟩; (try first | exact ⟨rfl, _, World.drewN_drewN _ _ _⟩ | exact ⟨rfl, _, Eq.trans (World.drewN_drewN _ _ _) (congrArg (World.drewN _) (Nat.add_assoc _ _ _))⟩)) | (go_at_call 24; (with_reducible refine (names_Less.calls a0 a0 false _ A10.out).mono ?_); rintro e w' ⟨rfl, ⟨nd, rfl⟩⟩; (try first | exact ⟨rfl, _, World.drewN_drewN _ _ _⟩ | exact ⟨rfl, _, Eq.trans (World.drewN_drewN _ _ _) (congrArg (World.drewN _) (Nat.add_assoc _ _ _))⟩)) | (go_at_call 24; (with_reducible refine (names_Less.calls a0 a1 true _ A13.out).mono ?_); rintro e w' ⟨rfl, ⟨nd, rfl⟩⟩; (try first | exact ⟨rfl, _, World.drewN_drewN _ _ _⟩ | exact ⟨rfl, _, Eq.trans (World.drewN_drewN _ _ _) (congrArg (World.drewN _) (Nat.add_assoc _ _ _))⟩)) | (go_at_call 24; (with_reducible refine (names_Less.calls a1 a2 true _ A15.out).mono ?_); rintro e w' ⟨rfl, ⟨nd, rfl⟩⟩; (try first | exact ⟨rfl, _, World.drewN_drewN _ _ _⟩ | exact ⟨rfl, _, Eq.trans (World.drewN_drewN _ _ _) (congrArg (World.drewN _) (Nat.add_assoc _ _ _))⟩)) | (go_at_call 24; (with_reducible refine (names_Less.calls a0 a2 t274 _ A17.out).mono ?_); rintro e w' ⟨rfl, ⟨nd, rfl⟩⟩; (try first | exact ⟨rfl, _, World.drewN_drewN _ _ _⟩ | exact ⟨rfl, _, Eq.trans (World.drewN_drewN _ _ _) (congrArg (World.drewN _) (Nat.add_assoc _ _ _))⟩)))
                repeat (go_quiet (first | (go_at_call 24; (with_reducible refine (names_Less.calls a0 a1 true _ A6.out).mono ?_); rintro e w' ⟨rfl, ⟨nd, rfl⟩⟩; (try first | exact ⟨rfl, _, World.drewN_drewN _ _ _⟩ | exact ⟨rfl, _, Eq.trans (World.drewN_drewN _ _ _) (congrArg (World.drewN _) (Nat.add_assoc _ _ _))⟩)) | (go_at_call 24; (with_reducible refine (names_Less.calls a1 a0 false _ A8.out).mono ?_); rintro e w' ⟨rfl, ⟨nd, rfl⟩⟩; (try first | exact ⟨rfl, _, World.drewN_drewN _ _ _⟩ | exact ⟨rfl, _, Eq.trans (World.drewN_drewN _ _ _) (congrArg (World.drewN _) (Nat.add_assoc _ _ _))⟩)) | (go_at_call 24; (with_reducible refine (names_Less.calls a0 a0 false _ A10.out).mono ?_); rintro e w' ⟨rfl, ⟨nd, rfl⟩⟩; (try first | exact ⟨rfl, _, World.drewN_drewN _ _ _⟩ | exact ⟨rfl, _, Eq.trans (World.drewN_drewN _ _ _) (congrArg (World.drewN _) (Nat.add_assoc _ _ _))⟩)) | (go_at_call 24; (with_reducible refine (names_Less.calls a0 a1 true _ A13.out).mono ?_); rintro e w' ⟨rfl, ⟨nd, rfl⟩⟩; (try first | exact ⟨rfl, _, World.drewN_drewN _ _ _⟩ | exact ⟨rfl, _, Eq.trans (World.drewN_drewN _ _ _) (congrArg (World.drewN _) (Nat.add_assoc _ _ _))⟩)) | (go_at_call 24; (with_reducible refine (names_Less.calls a1 a2 true _ A15.out).mono ?_); rintro e w' ⟨rfl, ⟨nd, rfl⟩⟩; (try first | exact ⟨rfl, _, World.drewN_drewN _ _ _⟩ | exact ⟨rfl, _, Eq.trans (World.drewN_drewN _ _ _) (congrArg (World.drewN _) (Nat.add_assoc _ _ _))⟩)) | (go_at_call 24; (with_reducible refine (names_Less.calls a0 a2 t274 _ A17.out).mono ?_); rintro e w' ⟨rfl, ⟨nd, rfl⟩⟩; (try first | exact ⟨rfl, _, World.drewN_drewN _ _ _⟩ | exact ⟨rfl, _, Eq.trans (World.drewN_drewN _ _ _) (congrArg (World.drewN _) (Nat.add_assoc _ _ _))⟩))); try go_wp2_with (first | (go_at_call 24; (with_reducible refine (names_Less.calls a0 a1 true _ A6.out).mono ?_); rintro e w' ⟨rfl, ⟨nd, rfl⟩⟩; (try first | exact ⟨rfl, _, World.drewN_drewN _ _ _⟩ | exact ⟨rfl, _, Eq.trans (World.drewN_drewN _ _ _) (congrArg (World.drewN _) (Nat.add_assoc _ _ _))⟩)) | (go_at_call 24; (with_reducible refine (names_Less.calls a1 a0 false _ A8.out).mono ?_); rintro e w' ⟨rfl, ⟨nd, rfl⟩⟩; (try first | exact ⟨rfl, _, World.drewN_drewN _ _ _⟩ | exact ⟨rfl, _, Eq.trans (World.drewN_drewN _ _ _) (congrArg (World.drewN _) (Nat.add_assoc _ _ _))⟩)) | (go_at_call 24; (with_reducible refine (names_Less.calls a0 a0 false _ A10.out).mono ?_); rintro e w' ⟨rfl, ⟨nd, rfl⟩⟩; (try first | exact ⟨rfl, _, World.drewN_drewN _ _ _⟩ | exact ⟨rfl, _, Eq.trans (World.drewN_drewN _ _ _) (congrArg (World.drewN _) (Nat.add_assoc _ _ _))⟩)) | (go_at_call 24; (with_reducible refine (names_Less.calls a0 a1 true _ A13.out).mono ?_); rintro e w' ⟨rfl, ⟨nd, rfl⟩⟩; (try first | exact ⟨rfl, _, World.drewN_drewN _ _ _⟩ | exact ⟨rfl, _, Eq.trans (World.drewN_drewN _ _ _) (congrArg (World.drewN _) (Nat.add_assoc _ _ _))⟩)) | (go_at_call 24; (with_reducible refine (names_Less.calls a1 a2 true _ A15.out).mono ?_); rintro e w' ⟨rfl, ⟨nd, rfl⟩⟩; (try first | exact ⟨rfl, _, World.drewN_drewN _ _ _⟩ | exact ⟨rfl, _, Eq.trans (World.drewN_drewN _ _ _) (congrArg (World.drewN _) (Nat.add_assoc _ _ _))⟩)) | (go_at_call 24; (with_reducible refine (names_Less.calls a0 a2 t274 _ A17.out).mono ?_); rintro e w' ⟨rfl, ⟨nd, rfl⟩⟩; (try first | exact ⟨rfl, _, World.drewN_drewN _ _ _⟩ | exact ⟨rfl, _, Eq.trans (World.drewN_drewN _ _ _) (congrArg (World.drewN _) (Nat.add_assoc _ _ _))⟩))))
                go_meet
                case rel => exact ⟨_, (!t274), (by first | rfl | (simp; done) | (simp [*]; done) | (simp [wrap64]; done)), H', ⟨by first | omega | exact Nat.le_refl _⟩, ⟨by repeat (first | (with_reducible first | exact HB.out | apply below_alloc | apply pw_below_drewN | apply below_drew1) | exact HB.out)⟩⟩
              · replace c16 := Bool.eq_false_iff.mpr c16
                subst c16
                have H1 : (pumicelaw02_NamesSorted.j0 k l3 false) = some r := by rw [if_neg (show ¬ (false = true) by decide)] at H; exact H
                clear H
                have H := H1
                clear H1
                have H' := Aside0.mk H
                clear H
                go_wp2_with (first | (go_at_call 24; (with_reducible refine (names_Less.calls a0 a1 true _ A6.out).mono ?_); rintro e w' ⟨rfl, ⟨nd, rfl⟩⟩; (try first | exact ⟨rfl, _, World.drewN_drewN _ _ _⟩ | exact ⟨rfl, _, Eq.trans (World.drewN_drewN _ _ _) (congrArg (World.drewN _) (Nat.add_assoc _ _ _))⟩)) | (go_at_call 24; (with_reducible refine (names_Less.calls a1 a0 false _ A8.out).mono ?_); rintro e w' ⟨rfl, ⟨nd, rfl⟩⟩; (try first | exact ⟨rfl, _, World.drewN_drewN _ _ _⟩ | exact ⟨rfl, _, Eq.trans (World.drewN_drewN _ _ _) (congrArg (World.drewN _) (Nat.add_assoc _ _ _))⟩)) | (go_at_call 24; (with_reducible refine (names_Less.calls a0 a0 false _ A10.out).mono ?_); rintro e w' ⟨rfl, ⟨nd, rfl⟩⟩; (try first | exact ⟨rfl, _, World.drewN_drewN _ _ _⟩ | exact ⟨rfl, _, Eq.trans (World.drewN_drewN _ _ _) (congrArg (World.drewN _) (Nat.add_assoc _ _ _))⟩)) | (go_at_call 24; (with_reducible refine (names_Less.calls a0 a1 true _ A13.out).mono ?_); rintro e w' ⟨rfl, ⟨nd, rfl⟩⟩; (try first | exact ⟨rfl, _, World.drewN_drewN _ _ _⟩ | exact ⟨rfl, _, Eq.trans (World.drewN_drewN _ _ _) (congrArg (World.drewN _) (Nat.add_assoc _ _ _))⟩)) | (go_at_call 24; (with_reducible refine (names_Less.calls a1 a2 false _ A15.out).mono ?_); rintro e w' ⟨rfl, ⟨nd, rfl⟩⟩; (try first | exact ⟨rfl, _, World.drewN_drewN _ _ _⟩ | exact ⟨rfl, _, Eq.trans (World.drewN_drewN _ _ _) (congrArg (World.drewN _) (Nat.add_assoc _ _ _))⟩)))
                repeat (go_quiet (first | (go_at_call 24; (with_reducible refine (names_Less.calls a0 a1 true _ A6.out).mono ?_); rintro e w' ⟨rfl, ⟨nd, rfl⟩⟩; (try first | exact ⟨rfl, _, World.drewN_drewN _ _ _⟩ | exact ⟨rfl, _, Eq.trans (World.drewN_drewN _ _ _) (congrArg (World.drewN _) (Nat.add_assoc _ _ _))⟩)) | (go_at_call 24; (with_reducible refine (names_Less.calls a1 a0 false _ A8.out).mono ?_); rintro e w' ⟨rfl, ⟨nd, rfl⟩⟩; (try first | exact ⟨rfl, _, World.drewN_drewN _ _ _⟩ | exact ⟨rfl, _, Eq.trans (World.drewN_drewN _ _ _) (congrArg (World.drewN _) (Nat.add_assoc _ _ _))⟩)) | (go_at_call 24; (with_reducible refine (names_Less.calls a0 a0 false _ A10.out).mono ?_); rintro e w' ⟨rfl, ⟨nd, rfl⟩⟩; (try first | exact ⟨rfl, _, World.drewN_drewN _ _ _⟩ | exact ⟨rfl, _, Eq.trans (World.drewN_drewN _ _ _) (congrArg (World.drewN _) (Nat.add_assoc _ _ _))⟩)) | (go_at_call 24; (with_reducible refine (names_Less.calls a0 a1 true _ A13.out).mono ?_); rintro e w' ⟨rfl, ⟨nd, rfl⟩⟩; (try first | exact ⟨rfl, _, World.drewN_drewN _ _ _⟩ | exact ⟨rfl, _, Eq.trans (World.drewN_drewN _ _ _) (congrArg (World.drewN _) (Nat.add_assoc _ _ _))⟩)) | (go_at_call 24; (with_reducible refine (names_Less.calls a1 a2 false _ A15.out).mono ?_); rintro e w' ⟨rfl, ⟨nd, rfl⟩⟩; (try first | exact ⟨rfl, _, World.drewN_drewN _ _ _⟩ | exact ⟨rfl, _, Eq.trans (World.drewN_drewN _ _ _) (congrArg (World.drewN _) (Nat.add_assoc _ _ _))⟩))); try go_wp2_with (first | (go_at_call 24; (with_reducible refine (names_Less.calls a0 a1 true _ A6.out).mono ?_); rintro e w' ⟨rfl, ⟨nd, rfl⟩⟩; (try first | exact ⟨rfl, _, World.drewN_drewN _ _ _⟩ | exact ⟨rfl, _, Eq.trans (World.drewN_drewN _ _ _) (congrArg (World.drewN _) (Nat.add_assoc _ _ _))⟩)) | (go_at_call 24; (with_reducible refine (names_Less.calls a1 a0 false _ A8.out).mono ?_); rintro e w' ⟨rfl, ⟨nd, rfl⟩⟩; (try first | exact ⟨rfl, _, World.drewN_drewN _ _ _⟩ | exact ⟨rfl, _, Eq.trans (World.drewN_drewN _ _ _) (congrArg (World.drewN _) (Nat.add_assoc _ _ _))⟩)) | (go_at_call 24; (with_reducible refine (names_Less.calls a0 a0 false _ A10.out).mono ?_); rintro e w' ⟨rfl, ⟨nd, rfl⟩⟩; (try first | exact ⟨rfl, _, World.drewN_drewN _ _ _⟩ | exact ⟨rfl, _, Eq.trans (World.drewN_drewN _ _ _) (congrArg (World.drewN _) (Nat.add_assoc _ _ _))⟩)) | (go_at_call 24; (with_reducible refine (names_Less.calls a0 a1 true _ A13.out).mono ?_); rintro e w' ⟨rfl, ⟨nd, rfl⟩⟩; (try first | exact ⟨rfl, _, World.drewN_drewN _ _ _⟩ | exact ⟨rfl, _, Eq.trans (World.drewN_drewN _ _ _) (congrArg (World.drewN _) (Nat.add_assoc _ _ _))⟩)) | (go_at_call 24; (with_reducible refine (names_Less.calls a1 a2 false _ A15.out).mono ?_); rintro e w' ⟨rfl, ⟨nd, rfl⟩⟩; (try first | exact ⟨rfl, _, World.drewN_drewN _ _ _⟩ | exact ⟨rfl, _, Eq.trans (World.drewN_drewN _ _ _) (congrArg (World.drewN _) (Nat.add_assoc _ _ _))⟩))))
                go_meet
                case rel => exact ⟨_, (false), (by first | rfl | (simp; done) | (simp [*]; done) | (simp [wrap64]; done)), H', ⟨by first | omega | exact Nat.le_refl _⟩, ⟨by repeat (first | (with_reducible first | exact HB.out | apply below_alloc | apply pw_below_drewN | apply below_drew1) | exact HB.out)⟩⟩
            · replace c14 := Bool.eq_false_iff.mpr c14
              subst c14
              have H1 : (pumicelaw02_NamesSorted.j0 k l3 false) = some r := by rw [if_neg (show ¬ (false = true) by decide)] at H; exact H
              clear H
              have H := H1
              clear H1
              have H' := Aside0.mk H
              clear H
              exact absurd (A6.out.symm.trans A13.out) (by simp)
          · rw [if_neg c12] at H
            have c12b0 : (a0.toList == a1.toList) = false := beq_eq_false_iff_ne.mpr c12
            have c12b1 : (a0.toList != a1.toList) = true := bne_iff_ne.mpr c12
            (first | rw [c12b0] | (simp only [i64_w, i32_w]; rw [c12b0]) | skip)
            replace H := Option.bind_eq_some_iff.mp H
            obtain ⟨t275, A180, H⟩ := H
            replace H : (if t275 = true then ((names_Less.f a0 a1).bind fun t276 => (if t276 = true then ((names_Less.f a1 a2).bind fun t277 => (if t277 = true then ((names_Less.f a0 a2).bind fun t278 => (pumicelaw02_NamesSorted.j0 k l3 (!t278))) else (pumicelaw02_NamesSorted.j0 k l3 false))) else (pumicelaw02_NamesSorted.j0 k l3 false))) else ((names_Less.f a1 a0).bind fun t279 => (if t279 = true then ((names_Less.f a0 a1).bind fun t280 => (if t280 = true then ((names_Less.f a1 a2).bind fun t281 => (if t281 = true then ((names_Less.f a0 a2).bind fun t282 => (pumicelaw02_NamesSorted.j0 k l3 (!t282))) else (pumicelaw02_NamesSorted.j0 k l3 false))) else (pumicelaw02_NamesSorted.j0 k l3 false))) else (pumicelaw02_NamesSorted.j0 k l3 true)))) = some r := H
            have A18 := Aside0.mk A180
            clear A180
            by_cases c19 : t275 = true
            · subst c19
              have H1 : ((names_Less.f a0 a1).bind fun t276 => (if t276 = true then ((names_Less.f a1 a2).bind fun t277 => (if t277 = true then ((names_Less.f a0 a2).bind fun t278 => (pumicelaw02_NamesSorted.j0 k l3 (!t278))) else (pumicelaw02_NamesSorted.j0 k l3 false))) else (pumicelaw02_NamesSorted.j0 k l3 false))) = some r := by rw [if_pos rfl] at H; exact H
              clear H
              have H := H1
              clear H1
              replace H := Option.bind_eq_some_iff.mp H
              obtain ⟨t276, A200, H⟩ := H
              replace H : (if t276 = true then ((names_Less.f a1 a2).bind fun t277 => (if t277 = true then ((names_Less.f a0 a2).bind fun t278 => (pumicelaw02_NamesSorted.j0 k l3 (!t278))) else (pumicelaw02_NamesSorted.j0 k l3 false))) else (pumicelaw02_NamesSorted.j0 k l3 false)) = some r := H
              have A20 := Aside0.mk A200
              clear A200
              by_cases c21 : t276 = true
              · subst c21
                have H1 : ((names_Less.f a1 a2).bind fun t277 => (if t277 = true then ((names_Less.f a0 a2).bind fun t278 => (pumicelaw02_NamesSorted.j0 k l3 (!t278))) else (pumicelaw02_NamesSorted.j0 k l3 false))) = some r := by rw [if_pos rfl] at H; exact H
                clear H
                have H := H1
                clear H1
                replace H := Option.bind_eq_some_iff.mp H
                obtain ⟨t277, A220, H⟩ := H
                replace H : (if t277 = true then ((names_Less.f a0 a2).bind fun t278 => (pumicelaw02_NamesSorted.j0 k l3 (!t278))) else (pumicelaw02_NamesSorted.j0 k l3 false)) = some r := H
                have A22 := Aside0.mk A220
                clear A220
                by_cases c23 : t277 = true
                · subst c23
                  have H1 : ((names_Less.f a0 a2).bind fun t278 => (pumicelaw02_NamesSorted.j0 k l3 (!t278))) = some r := by rw [if_pos rfl] at H; exact H
                  clear H
                  have H := H1
                  clear H1
                  replace H := Option.bind_eq_some_iff.mp H
                  obtain ⟨t278, A240, H⟩ := H
                  replace H : (pumicelaw02_NamesSorted.j0 k l3 (!t278)) = some r := H
                  have A24 := Aside0.mk A240
                  clear A240
                  have H' := Aside0.mk H
                  clear H
                  go_wp2_with (first | (go_at_call 24; (with_reducible refine (names_Less.calls a0 a1 true _ A6.out).mono ?_); rintro e w' ⟨rfl, ⟨nd, rfl⟩⟩; (try first | exact ⟨rfl, _, World.drewN_drewN _ _ _⟩ | exact ⟨rfl, _, Eq.trans (World.drewN_drewN _ _ _) (congrArg (World.drewN _) (Nat.add_assoc _ _ _))⟩)) | (go_at_call 24; (with_reducible refine (names_Less.calls a1 a0 false _ A8.out).mono ?_); rintro e w' ⟨rfl, ⟨nd, rfl⟩⟩; (try first | exact ⟨rfl, _, World.drewN_drewN _ _ _⟩ | exact ⟨rfl, _, Eq.trans (World.drewN_drewN _ _ _) (congrArg (World.drewN _) (Nat.add_assoc _ _ _))⟩)) | (go_at_call 24; (with_reducible refine (names_Less.calls a0 a0 false _ A10.out).mono ?_); rintro e w' ⟨rfl, ⟨nd, rfl⟩⟩; (try first | exact ⟨rfl, _, World.drewN_drewN _ _ _⟩ | exact ⟨rfl, _, Eq.trans (World.drewN_drewN _ _ _) (congrArg (World.drewN _) (Nat.add_assoc _ _ _))⟩)) | (go_at_call 24; (with_reducible refine (names_Less.calls a0 a1 true _ A18.out).mono ?_); rintro e w' ⟨rfl, ⟨nd, rfl⟩⟩; (try first | exact ⟨rfl, _, World.drewN_drewN _ _ _⟩ | exact ⟨rfl, _, Eq.trans (World.drewN_drewN _ _ _) (congrArg (World.drewN _) (Nat.add_assoc _ _ _))⟩)) | (go_at_call 24; (with_reducible refine (names_Less.calls a0 a1 true _ A20.out).mono ?_); rintro e w' ⟨rfl, ⟨nd, rfl⟩⟩; (try first | exact ⟨rfl, _, World.drewN_drewN _ _ _⟩ | exact ⟨rfl, _, Eq.trans (World.drewN_drewN _ _ _) (congrArg (World.drewN _) (Nat.add_assoc _ _ _))⟩)) | (go_at_call 24; (with_reducible refine (names_Less.calls a1 a2 true _ A22.out).mono ?_); rintro e w' ⟨rfl, ⟨nd, rfl⟩⟩; (try first | exact ⟨rfl, _, World.drewN_drewN _ _ _⟩ | exact ⟨rfl, _, Eq.trans (World.drewN_drewN _ _ _) (congrArg (World.drewN _) (Nat.add_assoc _ _ _))⟩)) | (go_at_call 24; (with_reducible refine (names_Less.calls a0 a2 t278 _ A24.out).mono ?_); rintro e w' ⟨rfl, ⟨nd, rfl⟩⟩; (try first | exact ⟨rfl, _, World.drewN_drewN _ _ _⟩ | exact ⟨rfl, _, Eq.trans (World.drewN_drewN _ _ _) (congrArg (World.drewN _) (Nat.add_assoc _ _ _))⟩)))
                  repeat (go_quiet (first | (go_at_call 24; (with_reducible refine (names_Less.calls a0 a1 true _ A6.out).mono ?_); rintro e w' ⟨rfl, ⟨nd, rfl⟩⟩; (try first | exact ⟨rfl, _, World.drewN_drewN _ _ _⟩ | exact ⟨rfl, _, Eq.trans (World.drewN_drewN _ _ _) (congrArg (World.drewN _) (Nat.add_assoc _ _ _))⟩)) | (go_at_call 24; (with_reducible refine (names_Less.calls a1 a0 false _ A8.out).mono ?_); rintro e w' ⟨rfl, ⟨nd, rfl⟩⟩; (try first | exact ⟨rfl, _, World.drewN_drewN _ _ _⟩ | exact ⟨rfl, _, Eq.trans (World.drewN_drewN _ _ _) (congrArg (World.drewN _) (Nat.add_assoc _ _ _))⟩)) | (go_at_call 24; (with_reducible refine (names_Less.calls a0 a0 false _ A10.out).mono ?_); rintro e w' ⟨rfl, ⟨nd, rfl⟩⟩; (try first | exact ⟨rfl, _, World.drewN_drewN _ _ _⟩ | exact ⟨rfl, _, Eq.trans (World.drewN_drewN _ _ _) (congrArg (World.drewN _) (Nat.add_assoc _ _ _))⟩)) | (go_at_call 24; (with_reducible refine (names_Less.calls a0 a1 true _ A18.out).mono ?_); rintro e w' ⟨rfl, ⟨nd, rfl⟩⟩; (try first | exact ⟨rfl, _, World.drewN_drewN _ _ _⟩ | exact ⟨rfl, _, Eq.trans (World.drewN_drewN _ _ _) (congrArg (World.drewN _) (Nat.add_assoc _ _ _))⟩)) | (go_at_call 24; (with_reducible refine (names_Less.calls a0 a1 true _ A20.out).mono ?_); rintro e w' ⟨rfl, ⟨nd, rfl⟩⟩; (try first | exact ⟨rfl, _, World.drewN_drewN _ _ _⟩ | exact ⟨rfl, _, Eq.trans (World.drewN_drewN _ _ _) (congrArg (World.drewN _) (Nat.add_assoc _ _ _))⟩)) | (go_at_call 24; (with_reducible refine (names_Less.calls a1 a2 true _ A22.out).mono ?_); rintro e w' ⟨rfl, ⟨nd, rfl⟩⟩; (try first | exact ⟨rfl, _, World.drewN_drewN _ _ _⟩ | exact ⟨rfl, _, Eq.trans (World.drewN_drewN _ _ _) (congrArg (World.drewN _) (Nat.add_assoc _ _ _))⟩)) | (go_at_call 24; (with_reducible refine (names_Less.calls a0 a2 t278 _ A24.out).mono ?_); rintro e w' ⟨rfl, ⟨nd, rfl⟩⟩; (try first | exact ⟨rfl, _, World.drewN_drewN _ _ _⟩ | exact ⟨rfl, _, Eq.trans (World.drewN_drewN _ _ _) (congrArg (World.drewN _) (Nat.add_assoc _ _ _))⟩))); try go_wp2_with (first | (go_at_call 24; (with_reducible refine (names_Less.calls a0 a1 true _ A6.out).mono ?_); rintro e w' ⟨rfl, ⟨nd, rfl⟩⟩; (try first | exact ⟨rfl, _, World.drewN_drewN _ _ _⟩ | exact ⟨rfl, _, Eq.trans (World.drewN_drewN _ _ _) (congrArg (World.drewN _) (Nat.add_assoc _ _ _))⟩)) | (go_at_call 24; (with_reducible refine (names_Less.calls a1 a0 false _ A8.out).mono ?_); rintro e w' ⟨rfl, ⟨nd, rfl⟩⟩; (try first | exact ⟨rfl, _, World.drewN_drewN _ _ _⟩ | exact ⟨rfl, _, Eq.trans (World.drewN_drewN _ _ _) (congrArg (World.drewN _) (Nat.add_assoc _ _ _))⟩)) | (go_at_call 24; (with_reducible refine (names_Less.calls a0 a0 false _ A10.out).mono ?_); rintro e w' ⟨rfl, ⟨nd, rfl⟩⟩; (try first | exact ⟨rfl, _, World.drewN_drewN _ _ _⟩ | exact ⟨rfl, _, Eq.trans (World.drewN_drewN _ _ _) (congrArg (World.drewN _) (Nat.add_assoc _ _ _))⟩)) | (go_at_call 24; (with_reducible refine (names_Less.calls a0 a1 true _ A18.out).mono ?_); rintro e w' ⟨rfl, ⟨nd, rfl⟩⟩; (try first | exact ⟨rfl, _, World.drewN_drewN _ _ _⟩ | exact ⟨rfl, _, Eq.trans (World.drewN_drewN _ _ _) (congrArg (World.drewN _) (Nat.add_assoc _ _ _))⟩)) | (go_at_call 24; (with_reducible refine (names_Less.calls a0 a1 true _ A20.out).mono ?_); rintro e w' ⟨rfl, ⟨nd, rfl⟩⟩; (try first | exact ⟨rfl, _, World.drewN_drewN _ _ _⟩ | exact ⟨rfl, _, Eq.trans (World.drewN_drewN _ _ _) (congrArg (World.drewN _) (Nat.add_assoc _ _ _))⟩)) | (go_at_call 24; (with_reducible refine (names_Less.calls a1 a2 true _ A22.out).mono ?_); rintro e w' ⟨rfl, ⟨nd, rfl⟩⟩; (try first | exact ⟨rfl, _, World.drewN_drewN _ _ _⟩ | exact ⟨rfl, _, Eq.trans (World.drewN_drewN _ _ _) (congrArg (World.drewN _) (Nat.add_assoc _ _ _))⟩)) | (go_at_call 24; (with_reducible refine (names_Less.calls a0 a2 t278 _ A24.out).mono ?_); rintro e w' ⟨rfl, ⟨nd, rfl⟩⟩; (try first | exact ⟨rfl, _, World.drewN_drewN _ _ _⟩ | exact ⟨rfl, _, Eq.trans (World.drewN_drewN _ _ _) (congrArg (World.drewN _) (Nat.add_assoc _ _ _))⟩))))
                  go_meet
                  case rel => exact ⟨_, (!t278), (by first | rfl | (simp; done) | (simp [*]; done) | (simp [wrap64]; done)), H', ⟨by first | omega | exact Nat.le_refl _⟩, ⟨by repeat (first | (with_reducible first | exact HB.out | apply below_alloc | apply pw_below_drewN | apply below_drew1) | exact HB.out)⟩⟩
                · replace c23 := Bool.eq_false_iff.mpr c23
                  subst c23
                  have H1 : (pumicelaw02_NamesSorted.j0 k l3 false) = some r := by rw [if_neg (show ¬ (false = true) by decide)] at H; exact H
                  clear H
                  have H := H1
                  clear H1
                  have H' := Aside0.mk H
                  clear H
                  go_wp2_with (first | (go_at_call 24; (with_reducible refine (names_Less.calls a0 a1 true _ A6.out).mono ?_); rintro e w' ⟨rfl, ⟨nd, rfl⟩⟩; (try first | exact ⟨rfl, _, World.drewN_drewN _ _ _⟩ | exact ⟨rfl, _, Eq.trans (World.drewN_drewN _ _ _) (congrArg (World.drewN _) (Nat.add_assoc _ _ _))⟩)) | (go_at_call 24; (with_reducible refine (names_Less.calls a1 a0 false _ A8.out).mono ?_); rintro e w' ⟨rfl, ⟨nd, rfl⟩⟩; (try first | exact ⟨rfl, _, World.drewN_drewN _ _ _⟩ | exact ⟨rfl, _, Eq.trans (World.drewN_drewN _ _ _) (congrArg (World.drewN _) (Nat.add_assoc _ _ _))⟩)) | (go_at_call 24; (with_reducible refine (names_Less.calls a0 a0 false _ A10.out).mono ?_); rintro e w' ⟨rfl, ⟨nd, rfl⟩⟩; (try first | exact ⟨rfl, _, World.drewN_drewN _ _ _⟩ | exact ⟨rfl, _, Eq.trans (World.drewN_drewN _ _ _) (congrArg (World.drewN _) (Nat.add_assoc _ _ _))⟩)) | (go_at_call 24; (with_reducible refine (names_Less.calls a0 a1 true _ A18.out).mono ?_); rintro e w' ⟨rfl, ⟨nd, rfl⟩⟩; (try first | exact ⟨rfl, _, World.drewN_drewN _ _ _⟩ | exact ⟨rfl, _, Eq.trans (World.drewN_drewN _ _ _) (congrArg (World.drewN _) (Nat.add_assoc _ _ _))⟩)) | (go_at_call 24; (with_reducible refine (names_Less.calls a0 a1 true _ A20.out).mono ?_); rintro e w' ⟨rfl, ⟨nd, rfl⟩⟩; (try first | exact ⟨rfl, _, World.drewN_drewN _ _ _⟩ | exact ⟨rfl, _, Eq.trans (World.drewN_drewN _ _ _) (congrArg (World.drewN _) (Nat.add_assoc _ _ _))⟩)) | (go_at_call 24; (with_reducible refine (names_Less.calls a1 a2 false _ A22.out).mono ?_); rintro e w' ⟨rfl, ⟨nd, rfl⟩⟩; (try first | exact ⟨rfl, _, World.drewN_drewN _ _ _⟩ | exact ⟨rfl, _, Eq.trans (World.drewN_drewN _ _ _) (congrArg (World.drewN _) (Nat.add_assoc _ _ _))⟩)))
                  repeat (go_quiet (first | (go_at_call 24; (with_reducible refine (names_Less.calls a0 a1 true _ A6.out).mono ?_); rintro e w' ⟨rfl, ⟨nd, rfl⟩⟩; (try first | exact ⟨rfl, _, World.drewN_drewN _ _ _⟩ | exact ⟨rfl, _, Eq.trans (World.drewN_drewN _ _ _) (congrArg (World.drewN _) (Nat.add_assoc _ _ _))⟩)) | (go_at_call 24; (with_reducible refine (names_Less.calls a1 a0 false _ A8.out).mono ?_); rintro e w' ⟨rfl, ⟨nd, rfl⟩⟩; (try first | exact ⟨rfl, _, World.drewN_drewN _ _ _⟩ | exact ⟨rfl, _, Eq.trans (World.drewN_drewN _ _ _) (congrArg (World.drewN _) (Nat.add_assoc _ _ _))⟩)) | (go_at_call 24; (with_reducible refine (names_Less.calls a0 a0 false _ A10.out).mono ?_); rintro e w' ⟨rfl, ⟨nd, rfl⟩⟩; (try first | exact ⟨rfl, _, World.drewN_drewN _ _ _⟩ | exact ⟨rfl, _, Eq.trans (World.drewN_drewN _ _ _) (congrArg (World.drewN _) (Nat.add_assoc _ _ _))⟩)) | (go_at_call 24; (with_reducible refine (names_Less.calls a0 a1 true _ A18.out).mono ?_); rintro e w' ⟨rfl, ⟨nd, rfl⟩⟩; (try first | exact ⟨rfl, _, World.drewN_drewN _ _ _⟩ | exact ⟨rfl, _, Eq.trans (World.drewN_drewN _ _ _) (congrArg (World.drewN _) (Nat.add_assoc _ _ _))⟩)) | (go_at_call 24; (with_reducible refine (names_Less.calls a0 a1 true _ A20.out).mono ?_); rintro e w' ⟨rfl, ⟨nd, rfl⟩⟩; (try first | exact ⟨rfl, _, World.drewN_drewN _ _ _⟩ | exact ⟨rfl, _, Eq.trans (World.drewN_drewN _ _ _) (congrArg (World.drewN _) (Nat.add_assoc _ _ _))⟩)) | (go_at_call 24; (with_reducible refine (names_Less.calls a1 a2 false _ A22.out).mono ?_); rintro e w' ⟨rfl, ⟨nd, rfl⟩⟩; (try first | exact ⟨rfl, _, World.drewN_drewN _ _ _⟩ | exact ⟨rfl, _, Eq.trans (World.drewN_drewN _ _ _) (congrArg (World.drewN _) (Nat.add_assoc _ _ _))⟩))); try go_wp2_with (first | (go_at_call 24; (with_reducible refine (names_Less.calls a0 a1 true _ A6.out).mono ?_); rintro e w' ⟨rfl, ⟨nd, rfl⟩⟩; (try first | exact ⟨rfl, _, World.drewN_drewN _ _ _⟩ | exact ⟨rfl, _, Eq.trans (World.drewN_drewN _ _ _) (congrArg (World.drewN _) (Nat.add_assoc _ _ _))⟩)) | (go_at_call 24; (with_reducible refine (names_Less.calls a1 a0 false _ A8.out).mono ?_); rintro e w' ⟨rfl, ⟨nd, rfl⟩⟩; (try first | exact ⟨rfl, _, World.drewN_drewN _ _ _⟩ | exact ⟨rfl, _, Eq.trans (World.drewN_drewN _ _ _) (congrArg (World.drewN _) (Nat.add_assoc _ _ _))⟩)) | (go_at_call 24; (with_reducible refine (names_Less.calls a0 a0 false _ A10.out).mono ?_); rintro e w' ⟨rfl, ⟨nd, rfl⟩⟩; (try first | exact ⟨rfl, _, World.drewN_drewN _ _ _⟩ | exact ⟨rfl, _, Eq.trans (World.drewN_drewN _ _ _) (congrArg (World.drewN _) (Nat.add_assoc _ _ _))⟩)) | (go_at_call 24; (with_reducible refine (names_Less.calls a0 a1 true _ A18.out).mono ?_); rintro e w' ⟨rfl, ⟨nd, rfl⟩⟩; (try first | exact ⟨rfl, _, World.drewN_drewN _ _ _⟩ | exact ⟨rfl, _, Eq.trans (World.drewN_drewN _ _ _) (congrArg (World.drewN _) (Nat.add_assoc _ _ _))⟩)) | (go_at_call 24; (with_reducible refine (names_Less.calls a0 a1 true _ A20.out).mono ?_); rintro e w' ⟨rfl, ⟨nd, rfl⟩⟩; (try first | exact ⟨rfl, _, World.drewN_drewN _ _ _⟩ | exact ⟨rfl, _, Eq.trans (World.drewN_drewN _ _ _) (congrArg (World.drewN _) (Nat.add_assoc _ _ _))⟩)) | (go_at_call 24; (with_reducible refine (names_Less.calls a1 a2 false _ A22.out).mono ?_); rintro e w' ⟨rfl, ⟨nd, rfl⟩⟩; (try first | exact ⟨rfl, _, World.drewN_drewN _ _ _⟩ | exact ⟨rfl, _, Eq.trans (World.drewN_drewN _ _ _) (congrArg (World.drewN _) (Nat.add_assoc _ _ _))⟩))))
                  go_meet
                  case rel => exact ⟨_, (false), (by first | rfl | (simp; done) | (simp [*]; done) | (simp [wrap64]; done)), H', ⟨by first | omega | exact Nat.le_refl _⟩, ⟨by repeat (first | (with_reducible first | exact HB.out | apply below_alloc | apply pw_below_drewN | apply below_drew1) | exact HB.out)⟩⟩
              · replace c21 := Bool.eq_false_iff.mpr c21
                subst c21
                have H1 : (pumicelaw02_NamesSorted.j0 k l3 false) = some r := by rw [if_neg (show ¬ (false = true) by decide)] at H; exact H
                clear H
                have H := H1
                clear H1
                have H' := Aside0.mk H
                clear H
                exact absurd (A18.out.symm.trans A20.out) (by simp)
            · replace c19 := Bool.eq_false_iff.mpr c19
              subst c19
              have H1 : ((names_Less.f a1 a0).bind fun t279 => (if t279 = true then ((names_Less.f a0 a1).bind fun t280 => (if t280 = true then ((names_Less.f a1 a2).bind fun t281 => (if t281 = true then ((names_Less.f a0 a2).bind fun t282 => (pumicelaw02_NamesSorted.j0 k l3 (!t282))) else (pumicelaw02_NamesSorted.j0 k l3 false))) else (pumicelaw02_NamesSorted.j0 k l3 false))) else (pumicelaw02_NamesSorted.j0 k l3 true))) = some r := by rw [if_neg (show ¬ (false = true) by decide)] at H; exact H
              clear H
              have H := H1
              clear H1
              replace H := Option.bind_eq_some_iff.mp H
              obtain ⟨t279, A250, H⟩ := H
              replace H : (if t279 = true then ((names_Less.f a0 a1).bind fun t280 => (if t280 = true then ((names_Less.f a1 a2).bind fun t281 => (if t281 = true then ((names_Less.f a0 a2).bind fun t282 => (pumicelaw02_NamesSorted.j0 k l3 (!t282))) else (pumicelaw02_NamesSorted.j0 k l3 false))) else (pumicelaw02_NamesSorted.j0 k l3 false))) else (pumicelaw02_NamesSorted.j0 k l3 true)) = some r := H
              have A25 := Aside0.mk A250
              clear A250
              by_cases c26 : t279 = true
              · subst c26
                have H1 : ((names_Less.f a0 a1).bind fun t280 => (if t280 = true then ((names_Less.f a1 a2).bind fun t281 => (if t281 = true then ((names_Less.f a0 a2).bind fun t282 => (pumicelaw02_NamesSorted.j0 k l3 (!t282))) else (pumicelaw02_NamesSorted.j0 k l3 false))) else (pumicelaw02_NamesSorted.j0 k l3 false))) = some r := by rw [if_pos rfl] at H; exact H
                clear H
                have H := H1
                clear H1
                replace H := Option.bind_eq_some_iff.mp H
                obtain ⟨t280, A270, H⟩ := H
                replace H : (if t280 = true then ((names_Less.f a1 a2).bind fun t281 => (if t281 = true then ((names_Less.f a0 a2).bind fun t282 => (pumicelaw02_NamesSorted.j0 k l3 (!t282))) else (pumicelaw02_NamesSorted.j0 k l3 false))) else (pumicelaw02_NamesSorted.j0 k l3 false)) = some r := H
                have A27 := Aside0.mk A270
                clear A270
                by_cases c28 : t280 = true
                · subst c28
                  have H1 : ((names_Less.f a1 a2).bind fun t281 => (if t281 = true then ((names_Less.f a0 a2).bind fun t282 => (pumicelaw02_NamesSorted.j0 k l3 (!t282))) else (pumicelaw02_NamesSorted.j0 k l3 false))) = some r := by rw [if_pos rfl] at H; exact H
                  clear H
                  have H := H1
                  clear H1
                  replace H := Option.bind_eq_some_iff.mp H
                  obtain ⟨t281, A290, H⟩ := H
                  replace H : (if t281 = true then ((names_Less.f a0 a2).bind fun t282 => (pumicelaw02_NamesSorted.j0 k l3 (!t282))) else (pumicelaw02_NamesSorted.j0 k l3 false)) = some r := H
                  have A29 := Aside0.mk A290
                  clear A290
                  by_cases c30 : t281 = true
                  · subst c30
                    have H1 : ((names_Less.f a0 a2).bind fun t282 => (pumicelaw02_NamesSorted.j0 k l3 (!t282))) = some r := by rw [if_pos rfl] at H; exact H
                    clear H
                    have H := H1
                    clear H1
                    replace H := Option.bind_eq_some_iff.mp H
                    obtain ⟨t282, A310, H⟩ := H
                    replace H : (pumicelaw02_NamesSorted.j0 k l3 (!t282)) = some r := H
                    have A31 := Aside0.mk A310
                    clear A310
                    have H' := Aside0.mk H
                    clear H
                    exact absurd (A27.out.symm.trans A18.out) (by simp)
                  · replace c30 := Bool.eq_false_iff.mpr c30
                    subst c30
                    have H1 : (pumicelaw02_NamesSorted.j0 k l3 false) = some r := by rw [if_neg (show ¬ (false = true) by decide)] at H; exact H
                    clear H
                    have H := H1
                    clear H1
                    have H' := Aside0.mk H
                    clear H
                    exact absurd (A27.out.symm.trans A18.out) (by simp)
                · replace c28 := Bool.eq_false_iff.mpr c28
                  subst c28
                  have H1 : (pumicelaw02_NamesSorted.j0 k l3 false) = some r := by rw [if_neg (show ¬ (false = true) by decide)] at H; exact H
                  clear H
                  have H := H1
                  clear H1
                  have H' := Aside0.mk H
                  clear H
                  exact absurd (A6.out.symm.trans A27.out) (by simp)
              · replace c26 := Bool.eq_false_iff.mpr c26
                subst c26
                have H1 : (pumicelaw02_NamesSorted.j0 k l3 true) = some r := by rw [if_neg (show ¬ (false = true) by decide)] at H; exact H
                clear H
                have H := H1
                clear H1
                have H' := Aside0.mk H
                clear H
                exact absurd (A6.out.symm.trans A18.out) (by simp)
    · replace c7 := Bool.eq_false_iff.mpr c7
      subst c7
      have H1 : ((names_Less.f a0 a0).bind fun t283 => (if t283 = true then (pumicelaw02_NamesSorted.j0 k l3 true) else (if a0.toList = a1.toList then ((names_Less.f a0 a1).bind fun t284 => (if t284 = true then ((names_Less.f a1 a2).bind fun t285 => (if t285 = true then ((names_Less.f a0 a2).bind fun t286 => (pumicelaw02_NamesSorted.j0 k l3 (!t286))) else (pumicelaw02_NamesSorted.j0 k l3 false))) else (pumicelaw02_NamesSorted.j0 k l3 false))) else ((names_Less.f a0 a1).bind fun t287 => (if t287 = true then ((names_Less.f a0 a1).bind fun t288 => (if t288 = true then ((names_Less.f a1 a2).bind fun t289 => (if t289 = true then ((names_Less.f a0 a2).bind fun t290 => (pumicelaw02_NamesSorted.j0 k l3 (!t290))) else (pumicelaw02_NamesSorted.j0 k l3 false))) else (pumicelaw02_NamesSorted.j0 k l3 false))) else ((names_Less.f a1 a0).bind fun t291 => (if t291 = true then ((names_Less.f a0 a1).bind fun t292 => (if t292 = true then ((names_Less.f a1 a2).bind fun t293 => (if t293 = true then ((names_Less.f a0 a2).bind fun t294 => (pumicelaw02_NamesSorted.j0 k l3 (!t294))) else (pumicelaw02_NamesSorted.j0 k l3 false))) else (pumicelaw02_NamesSorted.j0 k l3 false))) else (pumicelaw02_NamesSorted.j0 k l3 true)))))))) = some r := by rw [if_neg (show ¬ (false = true) by decide)] at H; exact H
      clear H
      have H := H1
      clear H1
      replace H := Option.bind_eq_some_iff.mp H
      obtain ⟨t283, A320, H⟩ := H
      replace H : (if t283 = true then (pumicelaw02_NamesSorted.j0 k l3 true) else (if a0.toList = a1.toList then ((names_Less.f a0 a1).bind fun t284 => (if t284 = true then ((names_Less.f a1 a2).bind fun t285 => (if t285 = true then ((names_Less.f a0 a2).bind fun t286 => (pumicelaw02_NamesSorted.j0 k l3 (!t286))) else (pumicelaw02_NamesSorted.j0 k l3 false))) else (pumicelaw02_NamesSorted.j0 k l3 false))) else ((names_Less.f a0 a1).bind fun t287 => (if t287 = true then ((names_Less.f a0 a1).bind fun t288 => (if t288 = true then ((names_Less.f a1 a2).bind fun t289 => (if t289 = true then ((names_Less.f a0 a2).bind fun t290 => (pumicelaw02_NamesSorted.j0 k l3 (!t290))) else (pumicelaw02_NamesSorted.j0 k l3 false))) else (pumicelaw02_NamesSorted.j0 k l3 false))) else ((names_Less.f a1 a0).bind fun t291 => (if t291 = true then ((names_Less.f a0 a1).bind fun t292 => (if t292 = true then ((names_Less.f a1 a2).bind fun t293 => (if t293 = true then ((names_Less.f a0 a2).bind fun t294 => (pumicelaw02_NamesSorted.j0 k l3 (!t294))) else (pumicelaw02_NamesSorted.j0 k l3 false))) else (pumicelaw02_NamesSorted.j0 k l3 false))) else (pumicelaw02_NamesSorted.j0 k l3 true))))))) = some r := H
      have A32 := Aside0.mk A320
      clear A320
      by_cases c33 : t283 = true
      · subst c33
        have H1 : (pumicelaw02_NamesSorted.j0 k l3 true) = some r := by rw [if_pos rfl] at H; exact H
        clear H
        have H := H1
        clear H1
        have H' := Aside0.mk H
        clear H
        go_wp2_with (first | (go_at_call 24; (with_reducible refine (names_Less.calls a0 a1 false _ A6.out).mono ?_); rintro e w' ⟨rfl, ⟨nd, rfl⟩⟩; (try first | exact ⟨rfl, _, World.drewN_drewN _ _ _⟩ | exact ⟨rfl, _, Eq.trans (World.drewN_drewN _ _ _) (congrArg (World.drewN _) (Nat.add_assoc _ _ _))⟩)) | (go_at_call 24; (with_reducible refine (names_Less.calls a0 a0 true _ A32.out).mono ?_); rintro e w' ⟨rfl, ⟨nd, rfl⟩⟩; (try first | exact ⟨rfl, _, World.drewN_drewN _ _ _⟩ | exact ⟨rfl, _, Eq.trans (World.drewN_drewN _ _ _) (congrArg (World.drewN _) (Nat.add_assoc _ _ _))⟩)))
        repeat (go_quiet (first | (go_at_call 24; (with_reducible refine (names_Less.calls a0 a1 false _ A6.out).mono ?_); rintro e w' ⟨rfl, ⟨nd, rfl⟩⟩; (try first | exact ⟨rfl, _, World.drewN_drewN _ _ _⟩ | exact ⟨rfl, _, Eq.trans (World.drewN_drewN _ _ _) (congrArg (World.drewN _) (Nat.add_assoc _ _ _))⟩)) | (go_at_call 24; (with_reducible refine (names_Less.calls a0 a0 true _ A32.out).mono ?_); rintro e w' ⟨rfl, ⟨nd, rfl⟩⟩; (try first | exact ⟨rfl, _, World.drewN_drewN _ _ _⟩ | exact ⟨rfl, _, Eq.trans (World.drewN_drewN _ _ _) (congrArg (World.drewN _) (Nat.add_assoc _ _ _))⟩))); try go_wp2_with (first | (go_at_call 24; (with_reducible refine (names_Less.calls a0 a1 false _ A6.out).mono ?_); rintro e w' ⟨rfl, ⟨nd, rfl⟩⟩; (try first | exact ⟨rfl, _, World.drewN_drewN _ _ _⟩ | exact ⟨rfl, _, Eq.trans (World.drewN_drewN _ _ _) (congrArg (World.drewN _) (Nat.add_assoc _ _ _))⟩)) | (go_at_call 24; (with_reducible refine (names_Less.calls a0 a0 true _ A32.out).mono ?_); rintro e w' ⟨rfl, ⟨nd, rfl⟩⟩; (try first | exact ⟨rfl, _, World.drewN_drewN _ _ _⟩ | exact ⟨rfl, _, Eq.trans (World.drewN_drewN _ _ _) (congrArg (World.drewN _) (Nat.add_assoc _ _ _))⟩))))
        go_meet
        case rel => exact ⟨_, (true), (by first | rfl | (simp; done) | (simp [*]; done) | (simp [wrap64]; done)), H', ⟨by first | omega | exact Nat.le_refl _⟩, ⟨by repeat (first | (with_reducible first | exact HB.out | apply below_alloc | apply pw_below_drewN | apply below_drew1) | exact HB.out)⟩⟩
      · replace c33 := Bool.eq_false_iff.mpr c33
        subst c33
        have H1 : (if a0.toList = a1.toList then ((names_Less.f a0 a1).bind fun t284 => (if t284 = true then ((names_Less.f a1 a2).bind fun t285 => (if t285 = true then ((names_Less.f a0 a2).bind fun t286 => (pumicelaw02_NamesSorted.j0 k l3 (!t286))) else (pumicelaw02_NamesSorted.j0 k l3 false))) else (pumicelaw02_NamesSorted.j0 k l3 false))) else ((names_Less.f a0 a1).bind fun t287 => (if t287 = true then ((names_Less.f a0 a1).bind fun t288 => (if t288 = true then ((names_Less.f a1 a2).bind fun t289 => (if t289 = true then ((names_Less.f a0 a2).bind fun t290 => (pumicelaw02_NamesSorted.j0 k l3 (!t290))) else (pumicelaw02_NamesSorted.j0 k l3 false))) else (pumicelaw02_NamesSorted.j0 k l3 false))) else ((names_Less.f a1 a0).bind fun t291 => (if t291 = true then ((names_Less.f a0 a1).bind fun t292 => (if t292 = true then ((names_Less.f a1 a2).bind fun t293 => (if t293 = true then ((names_Less.f a0 a2).bind fun t294 => (pumicelaw02_NamesSorted.j0 k l3 (!t294))) else (pumicelaw02_NamesSorted.j0 k l3 false))) else (pumicelaw02_NamesSorted.j0 k l3 false))) else (pumicelaw02_NamesSorted.j0 k l3 true)))))) = some r := by rw [if_neg (show ¬ (false = true) by decide)] at H; exact H
        clear H
        have H := H1
        clear H1
        by_cases c34 : a0.toList = a1.toList
        · rw [if_pos c34] at H
          have c34b0 : (a0.toList == a1.toList) = true := beq_iff_eq.mpr c34
          have c34b1 : (a0.toList != a1.toList) = false := bne_eq_false_iff_eq.mpr c34
          clear c34
          replace H := Option.bind_eq_some_iff.mp H
          obtain ⟨t284, A350, H⟩ := H
          replace H : (if t284 = true then ((names_Less.f a1 a2).bind fun t285 => (if t285 = true then ((names_Less.f a0 a2).bind fun t286 => (pumicelaw02_NamesSorted.j0 k l3 (!t286))) else (pumicelaw02_NamesSorted.j0 k l3 false))) else (pumicelaw02_NamesSorted.j0 k l3 false)) = some r := H
          have A35 := Aside0.mk A350
          clear A350
          by_cases c36 : t284 = true
          · subst c36
            have H1 : ((names_Less.f a1 a2).bind fun t285 => (if t285 = true then ((names_Less.f a0 a2).bind fun t286 => (pumicelaw02_NamesSorted.j0 k l3 (!t286))) else (pumicelaw02_NamesSorted.j0 k l3 false))) = some r := by rw [if_pos rfl] at H; exact H
            clear H
            have H := H1
            clear H1
            replace H := Option.bind_eq_some_iff.mp H
            obtain ⟨t285, A370, H⟩ := H
            replace H : (if t285 = true then ((names_Less.f a0 a2).bind fun t286 => (pumicelaw02_NamesSorted.j0 k l3 (!t286))) else (pumicelaw02_NamesSorted.j0 k l3 false)) = some r := H
            have A37 := Aside0.mk A370
            clear A370
            by_cases c38 : t285 = true
            · subst c38
              have H1 : ((names_Less.f a0 a2).bind fun t286 => (pumicelaw02_NamesSorted.j0 k l3 (!t286))) = some r := by rw [if_pos rfl] at H; exact H
              clear H
              have H := H1
              clear H1
              replace H := Option.bind_eq_some_iff.mp H
              obtain ⟨t286, A390, H⟩ := H
              replace H : (pumicelaw02_NamesSorted.j0 k l3 (!t286)) = some r := H
              have A39 := Aside0.mk A390
              clear A390
              have H' := Aside0.mk H
              clear H
              exact absurd (A35.out.symm.trans A6.out) (by simp)
            · replace c38 := Bool.eq_false_iff.mpr c38
              subst c38
              have H1 : (pumicelaw02_NamesSorted.j0 k l3 false) = some r := by rw [if_neg (show ¬ (false = true) by decide)] at H; exact H
              clear H
              have H := H1
              clear H1
              have H' := Aside0.mk H
              clear H
              exact absurd (A35.out.symm.trans A6.out) (by simp)
          · replace c36 := Bool.eq_false_iff.mpr c36
            subst c36
            have H1 : (pumicelaw02_NamesSorted.j0 k l3 false) = some r := by rw [if_neg (show ¬ (false = true) by decide)] at H; exact H
            clear H
            have H := H1
            clear H1
            have H' := Aside0.mk H
            clear H
            go_wp2_with (first | (go_at_call 24; (with_reducible refine (names_Less.calls a0 a1 false _ A6.out).mono ?_); rintro e w' ⟨rfl, ⟨nd, rfl⟩⟩; (try first | exact ⟨rfl, _, World.drewN_drewN _ _ _⟩ | exact ⟨rfl, _, Eq.trans (World.drewN_drewN _ _ _) (congrArg (World.drewN _) (Nat.add_assoc _ _ _))⟩)) | (go_at_call 24; (with_reducible refine (names_Less.calls a0 a0 false _ A32.out).mono ?_); rintro e w' ⟨rfl, ⟨nd, rfl⟩⟩; (try first | exact ⟨rfl, _, World.drewN_drewN _ _ _⟩ | exact ⟨rfl, _, Eq.trans (World.drewN_drewN _ _ _) (congrArg (World.drewN _) (Nat.add_assoc _ _ _))⟩)) | (go_at_call 24; (with_reducible refine (names_Less.calls a0 a1 false _ A35.out).mono ?_); rintro e w' ⟨rfl, ⟨nd, rfl⟩⟩; (try first | exact ⟨rfl, _, World.drewN_drewN _ _ _⟩ | exact ⟨rfl, _, Eq.trans (World.drewN_drewN _ _ _) (congrArg (World.drewN _) (Nat.add_assoc _ _ _))⟩)))
            repeat (go_quiet (first | (go_at_call 24; (with_reducible refine (names_Less.calls a0 a1 false _ A6.out).mono ?_); rintro e w' ⟨rfl, ⟨nd, rfl⟩⟩; (try first | exact ⟨rfl, _, World.drewN_drewN _ _ _⟩ | exact ⟨rfl, _, Eq.trans (World.drewN_drewN _ _ _) (congrArg (World.drewN _) (Nat.add_assoc _ _ _))⟩)) | (go_at_call 24; (with_reducible refine (names_Less.calls a0 a0 false _ A32.out).mono ?_); rintro e w' ⟨rfl, ⟨nd, rfl⟩⟩; (try first | exact ⟨rfl, _, World.drewN_drewN _ _ _⟩ | exact ⟨rfl, _, Eq.trans (World.drewN_drewN _ _ _) (congrArg (World.drewN _) (Nat.add_assoc _ _ _))⟩)) | (go_at_call 24; (with_reducible refine (names_Less.calls a0 a1 false _ A35.out).mono ?_); rintro e w' ⟨rfl, ⟨nd, rfl⟩⟩; (try first | exact ⟨rfl, _, World.drewN_drewN _ _ _⟩ | exact ⟨rfl, _, Eq.trans (World.drewN_drewN _ _ _) (congrArg (World.drewN _) (Nat.add_assoc _ _ _))⟩))); try go_wp2_with (first | (go_at_call 24; (with_reducible refine (names_Less.calls a0 a1 false _ A6.out).mono ?_); rintro e w' ⟨rfl, ⟨nd, rfl⟩⟩; (try first | exact ⟨rfl, _, World.drewN_drewN _ _ _⟩ | exact ⟨rfl, _, Eq.trans (World.drewN_drewN _ _ _) (congrArg (World.drewN _) (Nat.add_assoc _ _ _))⟩)) | (go_at_call 24; (with_reducible refine (names_Less.calls a0 a0 false _ A32.out).mono ?_); rintro e w' ⟨rfl, ⟨nd, rfl⟩⟩; (try first | exact ⟨rfl, _, World.drewN_drewN _ _ _⟩ | exact ⟨rfl, _, Eq.trans (World.drewN_drewN _ _ _) (congrArg (World.drewN _) (Nat.add_assoc _ _ _))⟩)) | (go_at_call 24; (with_reducible refine (names_Less.calls a0 a1 false _ A35.out).mono ?_); rintro e w' ⟨rfl, ⟨nd, rfl⟩⟩; (try first | exact ⟨rfl, _, World.drewN_drewN _ _ _⟩ | exact ⟨rfl, _, Eq.trans (World.drewN_drewN _ _ _) (congrArg (World.drewN _) (Nat.add_assoc _ _ _))⟩))))
            go_meet
            case rel => exact ⟨_, (false), (by first | rfl | (simp; done) | (simp [*]; done) | (simp [wrap64]; done)), H', ⟨by first | omega | exact Nat.le_refl _⟩, ⟨by repeat (first | (with_reducible first | exact HB.out | apply below_alloc | apply pw_below_drewN | apply below_drew1) | exact HB.out)⟩⟩
        · rw [if_neg c34] at H
          have c34b0 : (a0.toList == a1.toList) = false := beq_eq_false_iff_ne.mpr c34
          have c34b1 : (a0.toList != a1.toList) = true := bne_iff_ne.mpr c34
          replace H := Option.bind_eq_some_iff.mp H
          obtain ⟨t287, A400, H⟩ := H
          replace H : (if t287 = true then ((names_Less.f a0 a1).bind fun t288 => (if t288 = true then ((names_Less.f a1 a2).bind fun t289 => (if t289 = true then ((names_Less.f a0 a2).bind fun t290 => (pumicelaw02_NamesSorted.j0 k l3 (!t290))) else (pumicelaw02_NamesSorted.j0 k l3 false))) else (pumicelaw02_NamesSorted.j0 k l3 false))) else ((names_Less.f a1 a0).bind fun t291 => (if t291 = true then ((names_Less.f a0 a1).bind fun t292 => (if t292 = true then ((names_Less.f a1 a2).bind fun t293 => (if t293 = true then ((names_Less.f a0 a2).bind fun t294 => (pumicelaw02_NamesSorted.j0 k l3 (!t294))) else (pumicelaw02_NamesSorted.j0 k l3 false))) else (pumicelaw02_NamesSorted.j0 k l3 false))) else (pumicelaw02_NamesSorted.j0 k l3 true)))) = some r := H
          have A40 := Aside0.mk A400
          clear A400
          by_cases c41 : t287 = true
          · subst c41
            have H1 : ((names_Less.f a0 a1).bind fun t288 => (if t288 = true then ((names_Less.f a1 a2).bind fun t289 => (if t289 = true then ((names_Less.f a0 a2).bind fun t290 => (pumicelaw02_NamesSorted.j0 k l3 (!t290))) else (pumicelaw02_NamesSorted.j0 k l3 false))) else (pumicelaw02_NamesSorted.j0 k l3 false))) = some r := by rw [if_pos rfl] at H; exact H
            clear H
            have H := H1
            clear H1
            replace H := Option.bind_eq_some_iff.mp H
            obtain ⟨t288, A420, H⟩ := H
            replace H : (if t288 = true then ((names_Less.f a1 a2).bind fun t289 => (if t289 = true then ((names_Less.f a0 a2).bind fun t290 => (pumicelaw02_NamesSorted.j0 k l3 (!t290))) else (pumicelaw02_NamesSorted.j0 k l3 false))) else (pumicelaw02_NamesSorted.j0 k l3 false)) = some r := H
            have A42 := Aside0.mk A420
            clear A420
            by_cases c43 : t288 = true
            · subst c43
              have H1 : ((names_Less.f a1 a2).bind fun t289 => (if t289 = true then ((names_Less.f a0 a2).bind fun t290 => (pumicelaw02_NamesSorted.j0 k l3 (!t290))) else (pumicelaw02_NamesSorted.j0 k l3 false))) = some r := by rw [if_pos rfl] at H; exact H
              clear H
              have H := H1
              clear H1
              replace H := Option.bind_eq_some_iff.mp H
              obtain ⟨t289, A440, H⟩ := H
              replace H : (if t289 = true then ((names_Less.f a0 a2).bind fun t290 => (pumicelaw02_NamesSorted.j0 k l3 (!t290))) else (pumicelaw02_NamesSorted.j0 k l3 false)) = some r := H
              have A44 := Aside0.mk A440
              clear A440
              by_cases c45 : t289 = true
              · subst c45
                have H1 : ((names_Less.f a0 a2).bind fun t290 => (pumicelaw02_NamesSorted.j0 k l3 (!t290))) = some r := by rw [if_pos rfl] at H; exact H
                clear H
                have H := H1
                clear H1
                replace H := Option.bind_eq_some_iff.mp H
                obtain ⟨t290, A460, H⟩ := H
                replace H : (pumicelaw02_NamesSorted.j0 k l3 (!t290)) = some r := H
                have A46 := Aside0.mk A460
                clear A460
                have H' := Aside0.mk H
                clear H
                exact absurd (A42.out.symm.trans A6.out) (by simp)
              · replace c45 := Bool.eq_false_iff.mpr c45
                subst c45
                have H1 : (pumicelaw02_NamesSorted.j0 k l3 false) = some r := by rw [if_neg (show ¬ (false = true) by decide)] at H; exact H
                clear H
                have H := H1
                clear H1
                have H' := Aside0.mk H
                clear H
                exact absurd (A42.out.symm.trans A6.out) (by simp)
            · replace c43 := Bool.eq_false_iff.mpr c43
              subst c43
              have H1 : (pumicelaw02_NamesSorted.j0 k l3 false) = some r := by rw [if_neg (show ¬ (false = true) by decide)] at H; exact H
              clear H
              have H := H1
              clear H1
              have H' := Aside0.mk H
              clear H
              exact absurd (A40.out.symm.trans A42.out) (by simp)
          · replace c41 := Bool.eq_false_iff.mpr c41
            subst c41
            have H1 : ((names_Less.f a1 a0).bind fun t291 => (if t291 = true then ((names_Less.f a0 a1).bind fun t292 => (if t292 = true then ((names_Less.f a1 a2).bind fun t293 => (if t293 = true then ((names_Less.f a0 a2).bind fun t294 => (pumicelaw02_NamesSorted.j0 k l3 (!t294))) else (pumicelaw02_NamesSorted.j0 k l3 false))) else (pumicelaw02_NamesSorted.j0 k l3 false))) else (pumicelaw02_NamesSorted.j0 k l3 true))) = some r := by rw [if_neg (show ¬ (false = true) by decide)] at H; exact H
            clear H
            have H := H1
            clear H1
            replace H := Option.bind_eq_some_iff.mp H
            obtain ⟨t291, A470, H⟩ := H
            replace H : (if t291 = true then ((names_Less.f a0 a1).bind fun t292 => (if t292 = true then ((names_Less.f a1 a2).bind fun t293 => (if t293 = true then ((names_Less.f a0 a2).bind fun t294 => (pumicelaw02_NamesSorted.j0 k l3 (!t294))) else (pumicelaw02_NamesSorted.j0 k l3 false))) else (pumicelaw02_NamesSorted.j0 k l3 false))) else (pumicelaw02_NamesSorted.j0 k l3 true)) = some r := H
            have A47 := Aside0.mk A470
            clear A470
            by_cases c48 : t291 = true
            · subst c48
              have H1 : ((names_Less.f a0 a1).bind fun t292 => (if t292 = true then ((names_Less.f a1 a2).bind fun t293 => (if t293 = true then ((names_Less.f a0 a2).bind fun t294 => (pumicelaw02_NamesSorted.j0 k l3 (!t294))) else (pumicelaw02_NamesSorted.j0 k l3 false))) else (pumicelaw02_NamesSorted.j0 k l3 false))) = some r := by rw [if_pos rfl] at H; exact H
              clear H
              have H := H1
              clear H1
              replace H := Option.bind_eq_some_iff.mp H
              obtain ⟨t292, A490, H⟩ := H
              replace H : (if t292 = true then ((names_Less.f a1 a2).bind fun t293 => (if t293 = true then ((names_Less.f a0 a2).bind fun t294 => (pumicelaw02_NamesSorted.j0 k l3 (!t294))) else (pumicelaw02_NamesSorted.j0 k l3 false))) else (pumicelaw02_NamesSorted.j0 k l3 false)) = some r := H
              have A49 := Aside0.mk A490
              clear A490
              by_cases c50 : t292 = true
              · subst c50
                have H1 : ((names_Less.f a1 a2).bind fun t293 => (if t293 = true then ((names_Less.f a0 a2).bind fun t294 => (pumicelaw02_NamesSorted.j0 k l3 (!t294))) else (pumicelaw02_NamesSorted.j0 k l3 false))) = some r := by rw [if_pos rfl] at H; exact H
                clear H
                have H := H1
                clear H1
                replace H := Option.bind_eq_some_iff.mp H
                obtain ⟨t293, A510, H⟩ := H
                replace H : (if t293 = true then ((names_Less.f a0 a2).bind fun t294 => (pumicelaw02_NamesSorted.j0 k l3 (!t294))) else (pumicelaw02_NamesSorted.j0 k l3 false)) = some r := H
                have A51 := Aside0.mk A510
                clear A510
                by_cases c52 : t293 = true
                · subst c52
                  have H1 : ((names_Less.f a0 a2).bind fun t294 => (pumicelaw02_NamesSorted.j0 k l3 (!t294))) = some r := by rw [if_pos rfl] at H; exact H
                  clear H
                  have H := H1
                  clear H1
                  replace H := Option.bind_eq_some_iff.mp H
                  obtain ⟨t294, A530, H⟩ := H
                  replace H : (pumicelaw02_NamesSorted.j0 k l3 (!t294)) = some r := H
                  have A53 := Aside0.mk A530
                  clear A530
                  have H' := Aside0.mk H
                  clear H
                  exact absurd (A49.out.symm.trans A40.out) (by simp)
                · replace c52 := Bool.eq_false_iff.mpr c52
                  subst c52
                  have H1 : (pumicelaw02_NamesSorted.j0 k l3 false) = some r := by rw [if_neg (show ¬ (false = true) by decide)] at H; exact H
                  clear H
                  have H := H1
                  clear H1
                  have H' := Aside0.mk H
                  clear H
                  exact absurd (A49.out.symm.trans A40.out) (by simp)
              · replace c50 := Bool.eq_false_iff.mpr c50
                subst c50
                have H1 : (pumicelaw02_NamesSorted.j0 k l3 false) = some r := by rw [if_neg (show ¬ (false = true) by decide)] at H; exact H
                clear H
                have H := H1
                clear H1
                have H' := Aside0.mk H
                clear H
                go_wp2_with (first | (go_at_call 24; (with_reducible refine (names_Less.calls a0 a1 false _ A6.out).mono ?_); rintro e w' ⟨rfl, ⟨nd, rfl⟩⟩; (try first | exact ⟨rfl, _, World.drewN_drewN _ _ _⟩ | exact ⟨rfl, _, Eq.trans (World.drewN_drewN _ _ _) (congrArg (World.drewN _) (Nat.add_assoc _ _ _))⟩)) | (go_at_call 24; (with_reducible refine (names_Less.calls a0 a0 false _ A32.out).mono ?_); rintro e w' ⟨rfl, ⟨nd, rfl⟩⟩; (try first | exact ⟨rfl, _, World.drewN_drewN _ _ _⟩ | exact ⟨rfl, _, Eq.trans (World.drewN_drewN _ _ _) (congrArg (World.drewN _) (Nat.add_assoc _ _ _))⟩)) | (go_at_call 24; (with_reducible refine (names_Less.calls a0 a1 false _ A40.out).mono ?_); rintro e w' ⟨rfl, ⟨nd, rfl⟩⟩; (try first | exact ⟨rfl, _, World.drewN_drewN _ _ _⟩ | exact ⟨rfl, _, Eq.trans (World.drewN_drewN _ _ _) (congrArg (World.drewN _) (Nat.add_assoc _ _ _))⟩)) | (go_at_call 24; (with_reducible refine (names_Less.calls a1 a0 true _ A47.out).mono ?_); rintro e w' ⟨rfl, ⟨nd, rfl⟩⟩; (try first | exact ⟨rfl, _, World.drewN_drewN _ _ _⟩ | exact ⟨rfl, _, Eq.trans (World.drewN_drewN _ _ _) (congrArg (World.drewN _) (Nat.add_assoc _ _ _))⟩)) | (go_at_call 24; (with_reducible refine (names_Less.calls a0 a1 false _ A49.out).mono ?_); rintro e w' ⟨rfl, ⟨nd, rfl⟩⟩; (try first | exact ⟨rfl, _, World.drewN_drewN _ _ _⟩ | exact ⟨rfl, _, Eq.trans (World.drewN_drewN _ _ _) (congrArg (World.drewN _) (Nat.add_assoc _ _ _))⟩)))
                repeat (go_quiet (first | (go_at_call 24; (with_reducible refine (names_Less.calls a0 a1 false _ A6.out).mono ?_); rintro e w' ⟨rfl, ⟨nd, rfl⟩⟩; (try first | exact ⟨rfl, _, World.drewN_drewN _ _ _⟩ | exact ⟨rfl, _, Eq.trans (World.drewN_drewN _ _ _) (congrArg (World.drewN _) (Nat.add_assoc _ _ _))⟩)) | (go_at_call 24; (with_reducible refine (names_Less.calls a0 a0 false _ A32.out).mono ?_); rintro e w' ⟨rfl, ⟨nd, rfl⟩⟩; (try first | exact ⟨rfl, _, World.drewN_drewN _ _ _⟩ | exact ⟨rfl, _, Eq.trans (World.drewN_drewN _ _ _) (congrArg (World.drewN _) (Nat.add_assoc _ _ _))⟩)) | (go_at_call 24; (with_reducible refine (names_Less.calls a0 a1 false _ A40.out).mono ?_); rintro e w' ⟨rfl, ⟨nd, rfl⟩⟩; (try first | exact ⟨rfl, _, World.drewN_drewN _ _ _⟩ | exact ⟨rfl, _, Eq.trans (World.drewN_drewN _ _ _) (congrArg (World.drewN _) (Nat.add_assoc _ _ _))⟩)) | (go_at_call 24; (with_reducible refine (names_Less.calls a1 a0 true _ A47.out).mono ?_); rintro e w' ⟨rfl, ⟨nd, rfl⟩⟩; (try first | exact ⟨rfl, _, World.drewN_drewN _ _ _⟩ | exact ⟨rfl, _, Eq.trans (World.drewN_drewN _ _ _) (congrArg (World.drewN _) (Nat.add_assoc _ _ _))⟩)) | (go_at_call 24; (with_reducible refine (names_Less.calls a0 a1 false _ A49.out).mono ?_); rintro e w' ⟨rfl, ⟨nd, rfl⟩⟩; (try first | exact ⟨rfl, _, World.drewN_drewN _ _ _⟩ | exact ⟨rfl, _, Eq.trans (World.drewN_drewN _ _ _) (congrArg (World.drewN _) (Nat.add_assoc _ _ _))⟩))); try go_wp2_with (first | (go_at_call 24; (with_reducible refine (names_Less.calls a0 a1 false _ A6.out).mono ?_); rintro e w' ⟨rfl, ⟨nd, rfl⟩⟩; (try first | exact ⟨rfl, _, World.drewN_drewN _ _ _⟩ | exact ⟨rfl, _, Eq.trans (World.drewN_drewN _ _ _) (congrArg (World.drewN _) (Nat.add_assoc _ _ _))⟩)) | (go_at_call 24; (with_reducible refine (names_Less.calls a0 a0 false _ A32.out).mono ?_); rintro e w' ⟨rfl, ⟨nd, rfl⟩⟩; (try first | exact ⟨rfl, _, World.drewN_drewN _ _ _⟩ | exact ⟨rfl, _, Eq.trans (World.drewN_drewN _ _ _) (congrArg (World.drewN _) (Nat.add_assoc _ _ _))⟩)) | (go_at_call 24; (with_reducible refine (names_Less.calls a0 a1 false _ A40.out).mono ?_); rintro e w' ⟨rfl, ⟨nd, rfl⟩⟩; (try first | exact ⟨rfl, _, World.drewN_drewN _ _ _⟩ | exact ⟨rfl, _, Eq.trans (World.drewN_drewN _ _ _) (congrArg (World.drewN _) (Nat.add_assoc _ _ _))⟩)) | (go_at_call 24; (with_reducible refine (names_Less.calls a1 a0 true _ A47.out).mono ?_); rintro e w' ⟨rfl, ⟨nd, rfl⟩⟩; (try first | exact ⟨rfl, _, World.drewN_drewN _ _ _⟩ | exact ⟨rfl, _, Eq.trans (World.drewN_drewN _ _ _) (congrArg (World.drewN _) (Nat.add_assoc _ _ _))⟩)) | (go_at_call 24; (with_reducible refine (names_Less.calls a0 a1 false _ A49.out).mono ?_); rintro e w' ⟨rfl, ⟨nd, rfl⟩⟩; (try first | exact ⟨rfl, _, World.drewN_drewN _ _ _⟩ | exact ⟨rfl, _, Eq.trans (World.drewN_drewN _ _ _) (congrArg (World.drewN _) (Nat.add_assoc _ _ _))⟩))))
                go_meet
                case rel => exact ⟨_, (false), (by first | rfl | (simp; done) | (simp [*]; done) | (simp [wrap64]; done)), H', ⟨by first | omega | exact Nat.le_refl _⟩, ⟨by repeat (first | (with_reducible first | exact HB.out | apply below_alloc | apply pw_below_drewN | apply below_drew1) | exact HB.out)⟩⟩
            · replace c48 := Bool.eq_false_iff.mpr c48
              subst c48
              have H1 : (pumicelaw02_NamesSorted.j0 k l3 true) = some r := by rw [if_neg (show ¬ (false = true) by decide)] at H; exact H
              clear H
              have H := H1
              clear H1
              have H' := Aside0.mk H
              clear H
              go_wp2_with (first | (go_at_call 24; (with_reducible refine (names_Less.calls a0 a1 false _ A6.out).mono ?_); rintro e w' ⟨rfl, ⟨nd, rfl⟩⟩; (try first | exact ⟨rfl, _, World.drewN_drewN _ _ _⟩ | exact ⟨rfl, _, Eq.trans (World.drewN_drewN _ _ _) (congrArg (World.drewN _) (Nat.add_assoc _ _ _))⟩)) | (go_at_call 24; (with_reducible refine (names_Less.calls a0 a0 false _ A32.out).mono ?_); rintro e w' ⟨rfl, ⟨nd, rfl⟩⟩; (try first | exact ⟨rfl, _, World.drewN_drewN _ _ _⟩ | exact ⟨rfl, _, Eq.trans (World.drewN_drewN _ _ _) (congrArg (World.drewN _) (Nat.add_assoc _ _ _))⟩)) | (go_at_call 24; (with_reducible refine (names_Less.calls a0 a1 false _ A40.out).mono ?_); rintro e w' ⟨rfl, ⟨nd, rfl⟩⟩; (try first | exact ⟨rfl, _, World.drewN_drewN _ _ _⟩ | exact ⟨rfl, _, Eq.trans (World.drewN_drewN _ _ _) (congrArg (World.drewN _) (Nat.add_assoc _ _ _))⟩)) | (go_at_call 24; (with_reducible refine (names_Less.calls a1 a0 false _ A47.out).mono ?_); rintro e w' ⟨rfl, ⟨nd, rfl⟩⟩; (try first | exact ⟨rfl, _, World.drewN_drewN _ _ _⟩ | exact ⟨rfl, _, Eq.trans (World.drewN_drewN _ _ _) (congrArg (World.drewN _) (Nat.add_assoc _ _ _))⟩)))
              repeat (go_quiet (first | (go_at_call 24; (with_reducible refine (names_Less.calls a0 a1 false _ A6.out).mono ?_); rintro e w' ⟨rfl, ⟨nd, rfl⟩⟩; (try first | exact ⟨rfl, _, World.drewN_drewN _ _ _⟩ | exact ⟨rfl, _, Eq.trans (World.drewN_drewN _ _ _) (congrArg (World.drewN _) (Nat.add_assoc _ _ _))⟩)) | (go_at_call 24; (with_reducible refine (names_Less.calls a0 a0 false _ A32.out).mono ?_); rintro e w' ⟨rfl, ⟨nd, rfl⟩⟩; (try first | exact ⟨rfl, _, World.drewN_drewN _ _ _⟩ | exact ⟨rfl, _, Eq.trans (World.drewN_drewN _ _ _) (congrArg (World.drewN _) (Nat.add_assoc _ _ _))⟩)) | (go_at_call 24; (with_reducible refine (names_Less.calls a0 a1 false _ A40.out).mono ?_); rintro e w' ⟨rfl, ⟨nd, rfl⟩⟩; (try first | exact ⟨rfl, _, World.drewN_drewN _ _ _⟩ | exact ⟨rfl, _, Eq.trans (World.drewN_drewN _ _ _) (congrArg (World.drewN _) (Nat.add_assoc _ _ _))⟩)) | (go_at_call 24; (with_reducible refine (names_Less.calls a1 a0 false _ A47.out).mono ?_); rintro e w' ⟨rfl, ⟨nd, rfl⟩⟩; (try first | exact ⟨rfl, _, World.drewN_drewN _ _ _⟩ | exact ⟨rfl, _, Eq.trans (World.drewN_drewN _ _ _) (congrArg (World.drewN _) (Nat.add_assoc _ _ _))⟩))); try go_wp2_with (first | (go_at_call 24; (with_reducible refine (names_Less.calls a0 a1 false _ A6.out).mono ?_); rintro e w' ⟨rfl, ⟨nd, rfl⟩⟩; (try first | exact ⟨rfl, _, World.drewN_drewN _ _ _⟩ | exact ⟨rfl, _, Eq.trans (World.drewN_drewN _ _ _) (congrArg (World.drewN _) (Nat.add_assoc _ _ _))⟩)) | (go_at_call 24; (with_reducible refine (names_Less.calls a0 a0 false _ A32.out).mono ?_); rintro e w' ⟨rfl, ⟨nd, rfl⟩⟩; (try first | exact ⟨rfl, _, World.drewN_drewN _ _ _⟩ | exact ⟨rfl, _, Eq.trans (World.drewN_drewN _ _ _) (congrArg (World.drewN _) (Nat.add_assoc _ _ _))⟩)) | (go_at_call 24; (with_reducible refine (names_Less.calls a0 a1 false _ A40.out).mono ?_); rintro e w' ⟨rfl, ⟨nd, rfl⟩⟩; (try first | exact ⟨rfl, _, World.drewN_drewN _ _ _⟩ | exact ⟨rfl, _, Eq.trans (World.drewN_drewN _ _ _) (congrArg (World.drewN _) (Nat.add_assoc _ _ _))⟩)) | (go_at_call 24; (with_reducible refine (names_Less.calls a1 a0 false _ A47.out).mono ?_); rintro e w' ⟨rfl, ⟨nd, rfl⟩⟩; (try first | exact ⟨rfl, _, World.drewN_drewN _ _ _⟩ | exact ⟨rfl, _, Eq.trans (World.drewN_drewN _ _ _) (congrArg (World.drewN _) (Nat.add_assoc _ _ _))⟩))))
              go_meet
              case rel => exact ⟨_, (true), (by first | rfl | (simp; done) | (simp [*]; done) | (simp [wrap64]; done)), H', ⟨by first | omega | exact Nat.le_refl _⟩, ⟨by repeat (first | (with_reducible first | exact HB.out | apply below_alloc | apply pw_below_drewN | apply below_drew1) | exact HB.out)⟩⟩
  case rest =>
    clear HC5
    try clear c1
    try clear c2
    try clear p2
    try clear c3
    try clear c4
    try clear c5
    try clear p6
    try clear c7
    try clear c8
    try clear c9
    try clear c11
    try clear c12
    try clear c12b0
    try clear c12b1
    try clear c14
    try clear c16
    try clear c19
    try clear c21
    try clear c23
    try clear c26
    try clear c28
    try clear c30
    try clear c33
    try clear c34
    try clear c34b0
    try clear c34b1
    try clear c36
    try clear c38
    try clear c41
    try clear c43
    try clear c45
    try clear c48
    try clear c50
    try clear c52
    obtain ⟨kq, x59_4, rfl, HA, HJ4, HB⟩ := hcut
    cases kq with
    | zero => exact absurd HA.out (by simp [pumicelaw02_NamesSorted.j0])
    | succ kj4 =>
      have H := HA.out
      clear HA
      simp only [pumicelaw02_NamesSorted.j0] at H
      by_cases c54 : x59_4 = true
      · subst c54
        have H1 : (none) = some r := by rw [if_pos rfl] at H; exact H
        clear H
        have H := H1
        clear H1
        exact absurd H (by simp)
      · replace c54 := Bool.eq_false_iff.mpr c54
        subst c54
        have H1 : ((names_Sort.f l3).bind fun t295 => (if (t295.length : Int) = (l3.length : Int) then (pumicelaw02_NamesSorted.l0 kj4 l3 t295 0) else (none))) = some r := by rw [if_neg (show ¬ (false = true) by decide)] at H; exact H
        clear H
        have H := H1
        clear H1
        replace H := Option.bind_eq_some_iff.mp H
        obtain ⟨t295, A550, H⟩ := H
        replace H : (if (t295.length : Int) = (l3.length : Int) then (pumicelaw02_NamesSorted.l0 kj4 l3 t295 0) else (none)) = some r := H
        have A55 := Aside0.mk A550
        clear A550
        by_cases c56 : (t295.length : Int) = (l3.length : Int)
        · rw [if_pos c56] at H
          have c56b0 : ((t295.length : Int) == (l3.length : Int)) = true := beq_iff_eq.mpr c56
          have c56b1 : ((t295.length : Int) != (l3.length : Int)) = false := bne_eq_false_iff_eq.mpr c56
          have c56b2 : (t295.length == l3.length) = true := by first | simpa using c56 | (simp at c56 ⊢; omega)
          clear c56
          have H' := Aside0.mk H
          clear H
          go_wp2_with (first | (go_at_call 25; (with_reducible refine (names_Sort.calls _ _ l3 t295 _ ?side1 ?side2 A55.out).mono ?_); (case side1 => repeat (first | exact (Kd.C_below HR3.out HB.out) | (with_reducible refine Kd.C_alloc ?_ _) | (with_reducible refine Kd.C_drewN ?_ _) | (with_reducible refine Kd.C_drew ?_))); (case side2 => exact HC3.out); rintro e w57 ⟨v296, rfl, ho0, hb⟩; have n0_ := Aside0.mk (Kd.R_lower ho0 (below_size (by repeat (first | (with_reducible first | exact HB.out | apply below_alloc | apply pw_below_drewN | apply below_drew1) | exact HB.out)))); have n1_ := Aside0.mk (below_step (by repeat (first | (with_reducible first | exact HB.out | apply below_alloc | apply pw_below_drewN | apply below_drew1) | exact HB.out)) hb); clear HB; have HO297 := n0_; have HB := n1_; clear n0_ n1_; (try clear hb); (try clear hb2); (try clear hk); (try clear hi); (try clear ho0); obtain ⟨Ao58, co58, eo58⟩ := Kd.R_slice HO297.out; subst eo58))
          repeat (go_quiet (first | (go_at_call 25; (with_reducible refine (names_Sort.calls _ _ l3 t295 _ ?side1 ?side2 A55.out).mono ?_); (case side1 => repeat (first | exact (Kd.C_below HR3.out HB.out) | (with_reducible refine Kd.C_alloc ?_ _) | (with_reducible refine Kd.C_drewN ?_ _) | (with_reducible refine Kd.C_drew ?_))); (case side2 => exact HC3.out); rintro e w57 ⟨v296, rfl, ho0, hb⟩; have n0_ := Aside0.mk (Kd.R_lower ho0 (below_size (by repeat (first | (with_reducible first | exact HB.out | apply below_alloc | apply pw_below_drewN | apply below_drew1) | exact HB.out)))); have n1_ := Aside0.mk (below_step (by repeat (first | (with_reducible first | exact HB.out | apply below_alloc | apply pw_below_drewN | apply below_drew1) | exact HB.out)) hb); clear HB; have HO297 := n0_; have HB := n1_; clear n0_ n1_; (try clear hb); (try clear hb2); (try clear hk); (try clear hi); (try clear ho0); obtain ⟨Ao58, co58, eo58⟩ := Kd.R_slice HO297.out; subst eo58)); try go_wp2_with (first | (go_at_call 25; (with_reducible refine (names_Sort.calls _ _ l3 t295 _ ?side1 ?side2 A55.out).mono ?_); (case side1 => repeat (first | exact (Kd.C_below HR3.out HB.out) | (with_reducible refine Kd.C_alloc ?_ _) | (with_reducible refine Kd.C_drewN ?_ _) | (with_reducible refine Kd.C_drew ?_))); (case side2 => exact HC3.out); rintro e w57 ⟨v296, rfl, ho0, hb⟩; have n0_ := Aside0.mk (Kd.R_lower ho0 (below_size (by repeat (first | (with_reducible first | exact HB.out | apply below_alloc | apply pw_below_drewN | apply below_drew1) | exact HB.out)))); have n1_ := Aside0.mk (below_step (by repeat (first | (with_reducible first | exact HB.out | apply below_alloc | apply pw_below_drewN | apply below_drew1) | exact HB.out)) hb); clear HB; have HO297 := n0_; have HB := n1_; clear n0_ n1_; (try clear hb); (try clear hb2); (try clear hk); (try clear hi); (try clear ho0); obtain ⟨Ao58, co58, eo58⟩ := Kd.R_slice HO297.out; subst eo58)))
          go_loopg [10] kj4 (fun kq v10 w' => ∃ (x10_2 : Int), v10 = .int .i64 x10_2 ∧ Aside0 (pumicelaw02_NamesSorted.l0 kq l3 t295 x10_2 = some r) ∧ Aside0 (kq ≤ kj4) ∧ Aside0 (Kd.R Kd.string 9 w' w.heap.size (fun _ => True) (.slice Ao58 t295.length co58) t295) ∧ Aside0 (Below w.heap.size w w'))
          case atStart => exact ⟨(0), (by first | rfl | (simp; done) | (simp [*]; done) | (simp [wrap64]; done)), H', ⟨Nat.le_refl _⟩, ⟨by (with_reducible repeat (first | apply Kd.R_alloc | apply Kd.R_drewN | apply Kd.R_drew)); exact HO297.out⟩, ⟨by repeat (first | (with_reducible first | exact HB.out | apply below_alloc | apply pw_below_drewN | apply below_drew1) | exact HB.out)⟩⟩
          case round =>
            clear H'
            try clear c1
            try clear c2
            try clear p2
            try clear c3
            try clear c4
            try clear c5
            try clear p6
            try clear c7
            try clear c8
            try clear c9
            try clear c11
            try clear c12
            try clear c12b0
            try clear c12b1
            try clear c14
            try clear c16
            try clear c19
            try clear c21
            try clear c23
            try clear c26
            try clear c28
            try clear c30
            try clear c33
            try clear c34
            try clear c34b0
            try clear c34b1
            try clear c36
            try clear c38
            try clear c41
            try clear c43
            try clear c45
            try clear c48
            try clear c50
            try clear c52
            try clear c54
            try clear c56
            try clear c56b0
            try clear c56b1
            try clear c56b2
            try clear p2
            try clear p6
            obtain ⟨x10_2, rfl, HA, HK2, HO_9, HB⟩ := hrel
            cases gk with
            | zero => exact absurd HA.out (by simp [pumicelaw02_NamesSorted.l0])
            | succ k2 =>
              have H := HA.out
              clear HA
              simp only [pumicelaw02_NamesSorted.l0] at H
              by_cases c59 : x10_2 < (l3.length : Int)
              · rw [if_pos c59] at H
                have c59b0 : decide (x10_2 < (l3.length : Int)) = true := decide_eq_true c59
                clear c59
                have H' := Aside0.mk H
                clear H
                go_wp2
                repeat (go_quiet (fail); try go_wp2)
                go_loopg [11, 12, 13] k2 (fun kq v11 v12 v13 w' => ∃ (x11_3 : Int) (x12_3 : Int) (x13_3 : Int), v11 = .int .i64 x11_3 ∧ v12 = .int .i64 x12_3 ∧ v13 = .int .i64 x13_3 ∧ Aside0 (pumicelaw02_NamesSorted.l1 kq l3 t295 x10_2 x11_3 x12_3 x13_3 = some r) ∧ Aside0 (kq ≤ k2) ∧ Aside0 (Kd.R Kd.string 9 w' w.heap.size (fun _ => True) (.slice Ao58 t295.length co58) t295) ∧ Aside0 (Below w.heap.size w w'))
                case atStart => exact ⟨(0), (0), (0), (by first | rfl | (simp; done) | (simp [*]; done) | (simp [wrap64]; done)), (by first | rfl | (simp; done) | (simp [*]; done) | (simp [wrap64]; done)), (by first | rfl | (simp; done) | (simp [*]; done) | (simp [wrap64]; done)), H', ⟨Nat.le_refl _⟩, ⟨by (with_reducible repeat (first | apply Kd.R_alloc | apply Kd.R_drewN | apply Kd.R_drew)); exact HO_9.out⟩, ⟨by repeat (first | (with_reducible first | exact HB.out | apply below_alloc | apply pw_below_drewN | apply below_drew1) | exact HB.out)⟩⟩
                case round =>
                  clear H'
                  try clear c1
                  try clear c2
                  try clear p2
                  try clear c3
                  try clear c4
                  try clear c5
                  try clear p6
                  try clear c7
                  try clear c8
                  try clear c9
                  try clear c11
                  try clear c12
                  try clear c12b0
                  try clear c12b1
                  try clear c14
                  try clear c16
                  try clear c19
                  try clear c21
                  try clear c23
                  try clear c26
                  try clear c28
                  try clear c30
                  try clear c33
                  try clear c34
                  try clear c34b0
                  try clear c34b1
                  try clear c36
                  try clear c38
                  try clear c41
                  try clear c43
                  try clear c45
                  try clear c48
                  try clear c50
                  try clear c52
                  try clear c54
                  try clear c56
                  try clear c56b0
                  try clear c56b1
                  try clear c56b2
                  try clear c59
                  try clear c59b0
                  try clear p2
                  try clear p6
                  obtain ⟨x11_3, x12_3, x13_3, rfl, rfl, rfl, HA, HK3, HO_9, HB⟩ := hrel
                  cases gk with
                  | zero => exact absurd HA.out (by simp [pumicelaw02_NamesSorted.l1])
                  | succ k3 =>
                    have H := HA.out
                    clear HA
                    simp only [pumicelaw02_NamesSorted.l1] at H
                    by_cases c60 : x13_3 < (l3.length : Int)
                    · rw [if_pos c60] at H
                      have c60b0 : decide (x13_3 < (l3.length : Int)) = true := decide_eq_true c60
                      clear c60
                      by_cases c61 : 0 ≤ x13_3
                      · rw [if_pos c61] at H
                        have c61b0 : decide (0 ≤ x13_3) = true := decide_eq_true c61
                        clear c61
                        by_cases c62 : 0 ≤ x10_2
                        · rw [if_pos c62] at H
                          have c62b0 : decide (0 ≤ x10_2) = true := decide_eq_true c62
                          clear c62
                          by_cases c63 : x10_2 < (l3.length : Int)
                          · rw [if_pos c63] at H
                            have c63b0 : decide (x10_2 < (l3.length : Int)) = true := decide_eq_true c63
                            clear c63
                            by_cases c64 : (rdOf ByteArray.empty l3 x13_3).toList = (rdOf ByteArray.empty l3 x10_2).toList
                            · rw [if_pos c64] at H
                              have c64b0 : ((rdOf ByteArray.empty l3 x13_3).toList == (rdOf ByteArray.empty l3 x10_2).toList) = true := beq_iff_eq.mpr c64
                              have c64b1 : ((rdOf ByteArray.empty l3 x13_3).toList != (rdOf ByteArray.empty l3 x10_2).toList) = false := bne_eq_false_iff_eq.mpr c64
                              clear c64
                              by_cases c65 : x13_3 < (t295.length : Int)
                              · rw [if_pos c65] at H
                                have c65b0 : decide (x13_3 < (t295.length : Int)) = true := decide_eq_true c65
                                clear c65
                                by_cases c66 : (rdOf ByteArray.empty t295 x13_3).toList = (rdOf ByteArray.empty l3 x10_2).toList
                                · rw [if_pos c66] at H
                                  have c66b0 : ((rdOf ByteArray.empty t295 x13_3).toList == (rdOf ByteArray.empty l3 x10_2).toList) = true := beq_iff_eq.mpr c66
                                  have c66b1 : ((rdOf ByteArray.empty t295 x13_3).toList != (rdOf ByteArray.empty l3 x10_2).toList) = false := bne_eq_false_iff_eq.mpr c66
                                  clear c66
                                  have H' := Aside0.mk H
                                  clear H
                                  have p302 : 0 ≤ (x13_3 : Int) := of_decide_eq_true (by first | (with_reducible assumption) | assumption)
                                  have q302 : x13_3 < (l3.length : Int) := of_decide_eq_true (by first | (with_reducible assumption) | assumption)
                                  obtain ⟨ad302, e302, hx302_0⟩ := Kd.at_string HR3.out x13_3 p302 q302
                                  cases e302
                                  replace hx302_0 := (HB.out.cell (World.block_lt_of_cell? w _ hx302_0)).trans hx302_0
                                  replace p302 := eq_true p302
                                  replace q302 := eq_true q302
                                  have p303 : 0 ≤ (x10_2 : Int) := of_decide_eq_true (by first | (with_reducible assumption) | assumption)
                                  have q303 : x10_2 < (l3.length : Int) := of_decide_eq_true (by first | (with_reducible assumption) | assumption)
                                  obtain ⟨ad303, e303, hx303_0⟩ := Kd.at_string HR3.out x10_2 p303 q303
                                  obtain rfl : ad302 = ad303 := (by injection e303)
                                  replace hx303_0 := (HB.out.cell (World.block_lt_of_cell? w _ hx303_0)).trans hx303_0
                                  replace p303 := eq_true p303
                                  replace q303 := eq_true q303
                                  have p304 : 0 ≤ (x13_3 : Int) := of_decide_eq_true (by first | (with_reducible assumption) | assumption)
                                  have q304 : x13_3 < (t295.length : Int) := of_decide_eq_true (by first | (with_reducible assumption) | assumption)
                                  obtain ⟨ad304, e304, hx304_0⟩ := Kd.at_string (Kd.R_reads' HO_9.out).2.2 x13_3 p304 q304
                                  cases e304
                                  replace p304 := eq_true p304
                                  replace q304 := eq_true q304
                                  have p305 : 0 ≤ (x10_2 : Int) := of_decide_eq_true (by first | (with_reducible assumption) | assumption)
                                  have q305 : x10_2 < (l3.length : Int) := of_decide_eq_true (by first | (with_reducible assumption) | assumption)
                                  obtain ⟨ad305, e305, hx305_0⟩ := Kd.at_string HR3.out x10_2 p305 q305
                                  obtain rfl : ad302 = ad305 := (by injection e305)
                                  replace hx305_0 := (HB.out.cell (World.block_lt_of_cell? w _ hx305_0)).trans hx305_0
                                  replace p305 := eq_true p305
                                  replace q305 := eq_true q305
                                  go_wp2
                                  repeat (go_quiet (fail); try go_wp2)
                                  go_roundg k3
                                  case measure => have := HJ4.out; have := HK2.out; have := HK3.out; omega
                                  case rel => exact ⟨(wrap64 (x11_3 + 1)), (wrap64 (x12_3 + 1)), (wrap64 (x13_3 + 1)), (by first | rfl | (simp; done) | (simp [*]; done) | (simp [wrap64]; done)), (by first | rfl | (simp; done) | (simp [*]; done) | (simp [wrap64]; done)), (by first | rfl | (simp; done) | (simp [*]; done) | (simp [wrap64]; done)), H', ⟨by have := HJ4.out; have := HK2.out; have := HK3.out; omega⟩, ⟨by (with_reducible repeat (first | apply Kd.R_alloc | apply Kd.R_drewN | apply Kd.R_drew)); first | exact HO_9.out | exact Kd.R_mono HO_9.out (fun _ hk e => hk (e.trans (ownBlock_len _ _ _ _ _))) | exact Kd.R_mono HO_9.out (fun _ hk => ⟨fun e => hk.1 (e.trans (ownBlock_len _ _ _ _ _)), fun e => hk.2 (e.trans (ownBlock_len _ _ _ _ _))⟩)⟩, ⟨by repeat (first | (with_reducible first | exact HB.out | apply below_alloc | apply pw_below_drewN | apply below_drew1) | exact HB.out)⟩⟩
                                · rw [if_neg c66] at H
                                  have c66b0 : ((rdOf ByteArray.empty t295 x13_3).toList == (rdOf ByteArray.empty l3 x10_2).toList) = false := beq_eq_false_iff_ne.mpr c66
                                  have c66b1 : ((rdOf ByteArray.empty t295 x13_3).toList != (rdOf ByteArray.empty l3 x10_2).toList) = true := bne_iff_ne.mpr c66
                                  have H' := Aside0.mk H
                                  clear H
                                  have p302 : 0 ≤ (x13_3 : Int) := of_decide_eq_true (by first | (with_reducible assumption) | assumption)
                                  have q302 : x13_3 < (l3.length : Int) := of_decide_eq_true (by first | (with_reducible assumption) | assumption)
                                  obtain ⟨ad302, e302, hx302_0⟩ := Kd.at_string HR3.out x13_3 p302 q302
                                  cases e302
                                  replace hx302_0 := (HB.out.cell (World.block_lt_of_cell? w _ hx302_0)).trans hx302_0
                                  replace p302 := eq_true p302
                                  replace q302 := eq_true q302
                                  have p303 : 0 ≤ (x10_2 : Int) := of_decide_eq_true (by first | (with_reducible assumption) | assumption)
                                  have q303 : x10_2 < (l3.length : Int) := of_decide_eq_true (by first | (with_reducible assumption) | assumption)
                                  obtain ⟨ad303, e303, hx303_0⟩ := Kd.at_string HR3.out x10_2 p303 q303
                                  obtain rfl : ad302 = ad303 := (by injection e303)
                                  replace hx303_0 := (HB.out.cell (World.block_lt_of_cell? w _ hx303_0)).trans hx303_0
                                  replace p303 := eq_true p303
                                  replace q303 := eq_true q303
                                  have p304 : 0 ≤ (x13_3 : Int) := of_decide_eq_true (by first | (with_reducible assumption) | assumption)
                                  have q304 : x13_3 < (t295.length : Int) := of_decide_eq_true (by first | (with_reducible assumption) | assumption)
                                  obtain ⟨ad304, e304, hx304_0⟩ := Kd.at_string (Kd.R_reads' HO_9.out).2.2 x13_3 p304 q304
                                  cases e304
                                  replace p304 := eq_true p304
                                  replace q304 := eq_true q304
                                  have p305 : 0 ≤ (x10_2 : Int) := of_decide_eq_true (by first | (with_reducible assumption) | assumption)
                                  have q305 : x10_2 < (l3.length : Int) := of_decide_eq_true (by first | (with_reducible assumption) | assumption)
                                  obtain ⟨ad305, e305, hx305_0⟩ := Kd.at_string HR3.out x10_2 p305 q305
                                  obtain rfl : ad302 = ad305 := (by injection e305)
                                  replace hx305_0 := (HB.out.cell (World.block_lt_of_cell? w _ hx305_0)).trans hx305_0
                                  replace p305 := eq_true p305
                                  replace q305 := eq_true q305
                                  go_wp2
                                  repeat (go_quiet (fail); try go_wp2)
                                  go_roundg k3
                                  case measure => have := HJ4.out; have := HK2.out; have := HK3.out; omega
                                  case rel => exact ⟨(wrap64 (x11_3 + 1)), (x12_3), (wrap64 (x13_3 + 1)), (by first | rfl | (simp; done) | (simp [*]; done) | (simp [wrap64]; done)), (by first | rfl | (simp; done) | (simp [*]; done) | (simp [wrap64]; done)), (by first | rfl | (simp; done) | (simp [*]; done) | (simp [wrap64]; done)), H', ⟨by have := HJ4.out; have := HK2.out; have := HK3.out; omega⟩, ⟨by (with_reducible repeat (first | apply Kd.R_alloc | apply Kd.R_drewN | apply Kd.R_drew)); first | exact HO_9.out | exact Kd.R_mono HO_9.out (fun _ hk e => hk (e.trans (ownBlock_len _ _ _ _ _))) | exact Kd.R_mono HO_9.out (fun _ hk => ⟨fun e => hk.1 (e.trans (ownBlock_len _ _ _ _ _)), fun e => hk.2 (e.trans (ownBlock_len _ _ _ _ _))⟩)⟩, ⟨by repeat (first | (with_reducible first | exact HB.out | apply below_alloc | apply pw_below_drewN | apply below_drew1) | exact HB.out)⟩⟩
                              · rw [if_neg c65] at H
                                exact absurd H (by simp)
                            · rw [if_neg c64] at H
                              have c64b0 : ((rdOf ByteArray.empty l3 x13_3).toList == (rdOf ByteArray.empty l3 x10_2).toList) = false := beq_eq_false_iff_ne.mpr c64
                              have c64b1 : ((rdOf ByteArray.empty l3 x13_3).toList != (rdOf ByteArray.empty l3 x10_2).toList) = true := bne_iff_ne.mpr c64
                              by_cases c67 : x13_3 < (t295.length : Int)
                              · rw [if_pos c67] at H
                                have c67b0 : decide (x13_3 < (t295.length : Int)) = true := decide_eq_true c67
                                clear c67
                                by_cases c68 : (rdOf ByteArray.empty t295 x13_3).toList = (rdOf ByteArray.empty l3 x10_2).toList
                                · rw [if_pos c68] at H
                                  have c68b0 : ((rdOf ByteArray.empty t295 x13_3).toList == (rdOf ByteArray.empty l3 x10_2).toList) = true := beq_iff_eq.mpr c68
                                  have c68b1 : ((rdOf ByteArray.empty t295 x13_3).toList != (rdOf ByteArray.empty l3 x10_2).toList) = false := bne_eq_false_iff_eq.mpr c68
                                  clear c68
                                  have H' := Aside0.mk H
                                  clear H
                                  have p302 : 0 ≤ (x13_3 : Int) := of_decide_eq_true (by first | (with_reducible assumption) | assumption)
                                  have q302 : x13_3 < (l3.length : Int) := of_decide_eq_true (by first | (with_reducible assumption) | assumption)
                                  obtain ⟨ad302, e302, hx302_0⟩ := Kd.at_string HR3.out x13_3 p302 q302
                                  cases e302
                                  replace hx302_0 := (HB.out.cell (World.block_lt_of_cell? w _ hx302_0)).trans hx302_0
                                  replace p302 := eq_true p302
                                  replace q302 := eq_true q302
                                  have p303 : 0 ≤ (x10_2 : Int) := of_decide_eq_true (by first | (with_reducible assumption) | assumption)
                                  have q303 : x10_2 < (l3.length : Int) := of_decide_eq_true (by first | (with_reducible assumption) | assumption)
                                  obtain ⟨ad303, e303, hx303_0⟩ := Kd.at_string HR3.out x10_2 p303 q303
                                  obtain rfl : ad302 = ad303 := (by injection e303)
                                  replace hx303_0 := (HB.out.cell (World.block_lt_of_cell? w _ hx303_0)).trans hx303_0
                                  replace p303 := eq_true p303
                                  replace q303 := eq_true q303
                                  have p306 : 0 ≤ (x13_3 : Int) := of_decide_eq_true (by first | (with_reducible assumption) | assumption)
                                  have q306 : x13_3 < (t295.length : Int) := of_decide_eq_true (by first | (with_reducible assumption) | assumption)
                                  obtain ⟨ad306, e306, hx306_0⟩ := Kd.at_string (Kd.R_reads' HO_9.out).2.2 x13_3 p306 q306
                                  cases e306
                                  replace p306 := eq_true p306
                                  replace q306 := eq_true q306
                                  have p307 : 0 ≤ (x10_2 : Int) := of_decide_eq_true (by first | (with_reducible assumption) | assumption)
                                  have q307 : x10_2 < (l3.length : Int) := of_decide_eq_true (by first | (with_reducible assumption) | assumption)
                                  obtain ⟨ad307, e307, hx307_0⟩ := Kd.at_string HR3.out x10_2 p307 q307
                                  obtain rfl : ad302 = ad307 := (by injection e307)
                                  replace hx307_0 := (HB.out.cell (World.block_lt_of_cell? w _ hx307_0)).trans hx307_0
                                  replace p307 := eq_true p307
                                  replace q307 := eq_true q307
                                  go_wp2
                                  repeat (go_quiet (fail); try go_wp2)
                                  go_roundg k3
                                  case measure => have := HJ4.out; have := HK2.out; have := HK3.out; omega
                                  case rel => exact ⟨(x11_3), (wrap64 (x12_3 + 1)), (wrap64 (x13_3 + 1)), (by first | rfl | (simp; done) | (simp [*]; done) | (simp [wrap64]; done)), (by first | rfl | (simp; done) | (simp [*]; done) | (simp [wrap64]; done)), (by first | rfl | (simp; done) | (simp [*]; done) | (simp [wrap64]; done)), H', ⟨by have := HJ4.out; have := HK2.out; have := HK3.out; omega⟩, ⟨by (with_reducible repeat (first | apply Kd.R_alloc | apply Kd.R_drewN | apply Kd.R_drew)); first | exact HO_9.out | exact Kd.R_mono HO_9.out (fun _ hk e => hk (e.trans (ownBlock_len _ _ _ _ _))) | exact Kd.R_mono HO_9.out (fun _ hk => ⟨fun e => hk.1 (e.trans (ownBlock_len _ _ _ _ _)), fun e => hk.2 (e.trans (ownBlock_len _ _ _ _ _))⟩)⟩, ⟨by repeat (first | (with_reducible first | exact HB.out | apply below_alloc | apply pw_below_drewN | apply below_drew1) | exact HB.out)⟩⟩
                                · rw [if_neg c68] at H
                                  have c68b0 : ((rdOf ByteArray.empty t295 x13_3).toList == (rdOf ByteArray.empty l3 x10_2).toList) = false := beq_eq_false_iff_ne.mpr c68
                                  have c68b1 : ((rdOf ByteArray.empty t295 x13_3).toList != (rdOf ByteArray.empty l3 x10_2).toList) = true := bne_iff_ne.mpr c68
                                  have H' := Aside0.mk H
                                  clear H
                                  have p302 : 0 ≤ (x13_3 : Int) := of_decide_eq_true (by first | (with_reducible assumption) | assumption)
                                  have q302 : x13_3 < (l3.length : Int) := of_decide_eq_true (by first | (with_reducible assumption) | assumption)
                                  obtain ⟨ad302, e302, hx302_0⟩ := Kd.at_string HR3.out x13_3 p302 q302
                                  cases e302
                                  replace hx302_0 := (HB.out.cell (World.block_lt_of_cell? w _ hx302_0)).trans hx302_0
                                  replace p302 := eq_true p302
                                  replace q302 := eq_true q302
                                  have p303 : 0 ≤ (x10_2 : Int) := of_decide_eq_true (by first | (with_reducible assumption) | assumption)
                                  have q303 : x10_2 < (l3.length : Int) := of_decide_eq_true (by first | (with_reducible assumption) | assumption)
                                  obtain ⟨ad303, e303, hx303_0⟩ := Kd.at_string HR3.out x10_2 p303 q303
                                  obtain rfl : ad302 = ad303 := (by injection e303)
                                  replace hx303_0 := (HB.out.cell (World.block_lt_of_cell? w _ hx303_0)).trans hx303_0
                                  replace p303 := eq_true p303
                                  replace q303 := eq_true q303
                                  have p306 : 0 ≤ (x13_3 : Int) := of_decide_eq_true (by first | (with_reducible assumption) | assumption)
                                  have q306 : x13_3 < (t295.length : Int) := of_decide_eq_true (by first | (with_reducible assumption) | assumption)
                                  obtain ⟨ad306, e306, hx306_0⟩ := Kd.at_string (Kd.R_reads' HO_9.out).2.2 x13_3 p306 q306
                                  cases e306
                                  replace p306 := eq_true p306
                                  replace q306 := eq_true q306
                                  have p307 : 0 ≤ (x10_2 : Int) := of_decide_eq_true (by first | (with_reducible assumption) | assumption)
                                  have q307 : x10_2 < (l3.length : Int) := of_decide_eq_true (by first | (with_reducible assumption) | assumption)
                                  obtain ⟨ad307, e307, hx307_0⟩ := Kd.at_string HR3.out x10_2 p307 q307
                                  obtain rfl : ad302 = ad307 := (by injection e307)
                                  replace hx307_0 := (HB.out.cell (World.block_lt_of_cell? w _ hx307_0)).trans hx307_0
                                  replace p307 := eq_true p307
                                  replace q307 := eq_true q307
                                  go_wp2
                                  repeat (go_quiet (fail); try go_wp2)
                                  go_roundg k3
                                  case measure => have := HJ4.out; have := HK2.out; have := HK3.out; omega
                                  case rel => exact ⟨(x11_3), (x12_3), (wrap64 (x13_3 + 1)), (by first | rfl | (simp; done) | (simp [*]; done) | (simp [wrap64]; done)), (by first | rfl | (simp; done) | (simp [*]; done) | (simp [wrap64]; done)), (by first | rfl | (simp; done) | (simp [*]; done) | (simp [wrap64]; done)), H', ⟨by have := HJ4.out; have := HK2.out; have := HK3.out; omega⟩, ⟨by (with_reducible repeat (first | apply Kd.R_alloc | apply Kd.R_drewN | apply Kd.R_drew)); first | exact HO_9.out | exact Kd.R_mono HO_9.out (fun _ hk e => hk (e.trans (ownBlock_len _ _ _ _ _))) | exact Kd.R_mono HO_9.out (fun _ hk => ⟨fun e => hk.1 (e.trans (ownBlock_len _ _ _ _ _)), fun e => hk.2 (e.trans (ownBlock_len _ _ _ _ _))⟩)⟩, ⟨by repeat (first | (with_reducible first | exact HB.out | apply below_alloc | apply pw_below_drewN | apply below_drew1) | exact HB.out)⟩⟩
                              · rw [if_neg c67] at H
                                exact absurd H (by simp)
                          · rw [if_neg c63] at H
                            exact absurd H (by simp)
                        · rw [if_neg c62] at H
                          exact absurd H (by simp)
                      · rw [if_neg c61] at H
                        exact absurd H (by simp)
                    · rw [if_neg c60] at H
                      have c60b0 : decide (x13_3 < (l3.length : Int)) = false := decide_eq_false c60
                      clear c60
                      by_cases c69 : x11_3 = x12_3
                      · rw [if_pos c69] at H
                        have c69b0 : (x11_3 == x12_3) = true := beq_iff_eq.mpr c69
                        have c69b1 : (x11_3 != x12_3) = false := bne_eq_false_iff_eq.mpr c69
                        clear c69
                        by_cases c70 : x10_2 > 0
                        · rw [if_pos c70] at H
                          have c70b0 : decide (0 < x10_2) = true := decide_eq_true c70
                          clear c70
                          by_cases c71 : 0 ≤ x10_2
                          · rw [if_pos c71] at H
                            have c71b0 : decide (0 ≤ x10_2) = true := decide_eq_true c71
                            clear c71
                            by_cases c72 : x10_2 < (t295.length : Int)
                            · rw [if_pos c72] at H
                              have c72b0 : decide (x10_2 < (t295.length : Int)) = true := decide_eq_true c72
                              clear c72
                              obtain ⟨ji73, hji73⟩ : ∃ j_ : Int, (wrap64 (x10_2 - 1)) = j_ := ⟨_, rfl⟩
                              replace H : (if 0 ≤ (ji73) then (if (ji73) < (t295.length : Int) then ((names_Less.f (rdOf ByteArray.empty t295 x10_2) (rdOf ByteArray.empty t295 (ji73))).bind fun t301 => (if t301 = true then (none) else (pumicelaw02_NamesSorted.l0 k3 l3 t295 (wrap64 (x10_2 + 1))))) else (none)) else (none)) = some r := by first | (rw [hji73] at H; exact H) | (simp only [hji73] at H ⊢; exact H)
                              have hji73w : (IntKind.i64.wrap (x10_2 - 1)) = ji73 := (i64_w _).trans hji73
                              by_cases c74 : 0 ≤ (ji73)
                              · rw [if_pos c74] at H
                                have c74b0 : decide (0 ≤ (ji73)) = true := decide_eq_true c74
                                clear c74
                                by_cases c75 : (ji73) < (t295.length : Int)
                                · rw [if_pos c75] at H
                                  have c75b0 : decide ((ji73) < (t295.length : Int)) = true := decide_eq_true c75
                                  clear c75
                                  replace H := Option.bind_eq_some_iff.mp H
                                  obtain ⟨t301, A760, H⟩ := H
                                  replace H : (if t301 = true then (none) else (pumicelaw02_NamesSorted.l0 k3 l3 t295 (wrap64 (x10_2 + 1)))) = some r := H
                                  have A76 := Aside0.mk A760
                                  clear A760
                                  by_cases c77 : t301 = true
                                  · subst c77
                                    have H1 : (none) = some r := by rw [if_pos rfl] at H; exact H
                                    clear H
                                    have H := H1
                                    clear H1
                                    exact absurd H (by simp)
                                  · replace c77 := Bool.eq_false_iff.mpr c77
                                    subst c77
                                    have H1 : (pumicelaw02_NamesSorted.l0 k3 l3 t295 (wrap64 (x10_2 + 1))) = some r := by rw [if_neg (show ¬ (false = true) by decide)] at H; exact H
                                    clear H
                                    have H := H1
                                    clear H1
                                    have H' := Aside0.mk H
                                    clear H
                                    have p299 : 0 ≤ (x10_2 : Int) := of_decide_eq_true (by first | (with_reducible assumption) | assumption)
                                    have q299 : x10_2 < (t295.length : Int) := of_decide_eq_true (by first | (with_reducible assumption) | assumption)
                                    obtain ⟨ad299, e299, hx299_0⟩ := Kd.at_string (Kd.R_reads' HO_9.out).2.2 x10_2 p299 q299
                                    cases e299
                                    replace p299 := eq_true p299
                                    replace q299 := eq_true q299
                                    have p300 : 0 ≤ ((ji73) : Int) := of_decide_eq_true (by first | (with_reducible assumption) | assumption)
                                    have q300 : (ji73) < (t295.length : Int) := of_decide_eq_true (by first | (with_reducible assumption) | assumption)
                                    obtain ⟨ad300, e300, hx300_0⟩ := Kd.at_string (Kd.R_reads' HO_9.out).2.2 (ji73) p300 q300
                                    obtain rfl : ad299 = ad300 := (by injection e300)
                                    replace p300 := eq_true p300
                                    replace q300 := eq_true q300
                                    go_wp2_with (first | (go_at_call 24; (with_reducible refine (names_Less.calls (rdOf ByteArray.empty t295 x10_2) (rdOf ByteArray.empty t295 (ji73)) false _ A76.out).mono ?_); rintro e w' ⟨rfl, ⟨nd, rfl⟩⟩; (try first | exact ⟨rfl, _, World.drewN_drewN _ _ _⟩ | exact ⟨rfl, _, Eq.trans (World.drewN_drewN _ _ _) (congrArg (World.drewN _) (Nat.add_assoc _ _ _))⟩)))
                                    repeat (go_quiet (first | (go_at_call 24; (with_reducible refine (names_Less.calls (rdOf ByteArray.empty t295 x10_2) (rdOf ByteArray.empty t295 (ji73)) false _ A76.out).mono ?_); rintro e w' ⟨rfl, ⟨nd, rfl⟩⟩; (try first | exact ⟨rfl, _, World.drewN_drewN _ _ _⟩ | exact ⟨rfl, _, Eq.trans (World.drewN_drewN _ _ _) (congrArg (World.drewN _) (Nat.add_assoc _ _ _))⟩))); try go_wp2_with (first | (go_at_call 24; (with_reducible refine (names_Less.calls (rdOf ByteArray.empty t295 x10_2) (rdOf ByteArray.empty t295 (ji73)) false _ A76.out).mono ?_); rintro e w' ⟨rfl, ⟨nd, rfl⟩⟩; (try first | exact ⟨rfl, _, World.drewN_drewN _ _ _⟩ | exact ⟨rfl, _, Eq.trans (World.drewN_drewN _ _ _) (congrArg (World.drewN _) (Nat.add_assoc _ _ _))⟩))))
                                    go_roundg k3
                                    case measure => have := HJ4.out; have := HK2.out; have := HK3.out; omega
                                    case rel => exact ⟨(wrap64 (x10_2 + 1)), (by first | rfl | (simp; done) | (simp [*]; done) | (simp [wrap64]; done)), H', ⟨by have := HJ4.out; have := HK2.out; have := HK3.out; omega⟩, ⟨by (with_reducible repeat (first | apply Kd.R_alloc | apply Kd.R_drewN | apply Kd.R_drew)); first | exact HO_9.out | exact Kd.R_mono HO_9.out (fun _ hk e => hk (e.trans (ownBlock_len _ _ _ _ _))) | exact Kd.R_mono HO_9.out (fun _ hk => ⟨fun e => hk.1 (e.trans (ownBlock_len _ _ _ _ _)), fun e => hk.2 (e.trans (ownBlock_len _ _ _ _ _))⟩)⟩, ⟨by repeat (first | (with_reducible first | exact HB.out | apply below_alloc | apply pw_below_drewN | apply below_drew1) | exact HB.out)⟩⟩
                                · rw [if_neg c75] at H
                                  exact absurd H (by simp)
                              · rw [if_neg c74] at H
                                exact absurd H (by simp)
                            · rw [if_neg c72] at H
                              exact absurd H (by simp)
                          · rw [if_neg c71] at H
                            exact absurd H (by simp)
                        · rw [if_neg c70] at H
                          have c70b0 : decide (0 < x10_2) = false := decide_eq_false c70
                          clear c70
                          have H' := Aside0.mk H
                          clear H
                          go_wp2
                          repeat (go_quiet (fail); try go_wp2)
                          go_roundg k3
                          case measure => have := HJ4.out; have := HK2.out; have := HK3.out; omega
                          case rel => exact ⟨(wrap64 (x10_2 + 1)), (by first | rfl | (simp; done) | (simp [*]; done) | (simp [wrap64]; done)), H', ⟨by have := HJ4.out; have := HK2.out; have := HK3.out; omega⟩, ⟨by (with_reducible repeat (first | apply Kd.R_alloc | apply Kd.R_drewN | apply Kd.R_drew)); first | exact HO_9.out | exact Kd.R_mono HO_9.out (fun _ hk e => hk (e.trans (ownBlock_len _ _ _ _ _))) | exact Kd.R_mono HO_9.out (fun _ hk => ⟨fun e => hk.1 (e.trans (ownBlock_len _ _ _ _ _)), fun e => hk.2 (e.trans (ownBlock_len _ _ _ _ _))⟩)⟩, ⟨by repeat (first | (with_reducible first | exact HB.out | apply below_alloc | apply pw_below_drewN | apply below_drew1) | exact HB.out)⟩⟩
                      · rw [if_neg c69] at H
                        exact absurd H (by simp)
              · rw [if_neg c59] at H
                have c59b0 : decide (x10_2 < (l3.length : Int)) = false := decide_eq_false c59
                clear c59
                replace H := Option.bind_eq_some_iff.mp H
                obtain ⟨t298, A780, H⟩ := H
                replace H : (some t298) = some r := H
                have A78 := Aside0.mk A780
                clear A780
                obtain rfl := Option.some.inj H
                go_wp2_with (first | (go_at_call 15; (with_reducible refine (pumicelaw02_alive.calls k2  t298 _ A78.out).mono ?_); rintro e w79 ⟨rfl, hb⟩; have n0_ := Aside0.mk (Kd.R_below (by (with_reducible repeat (first | apply Kd.R_alloc | apply Kd.R_drewN | apply Kd.R_drew)); exact HO_9.out) hb); have n1_ := Aside0.mk (below_step (by repeat (first | (with_reducible first | exact HB.out | apply below_alloc | apply pw_below_drewN | apply below_drew1) | exact HB.out)) hb); clear HO_9; clear HB; have HO_9 := n0_; have HB := n1_; clear n0_ n1_; (try clear hb); (try clear hb2); (try clear hk); (try clear hi)))
                repeat (go_quiet (first | (go_at_call 15; (with_reducible refine (pumicelaw02_alive.calls k2  t298 _ A78.out).mono ?_); rintro e w79 ⟨rfl, hb⟩; have n0_ := Aside0.mk (Kd.R_below (by (with_reducible repeat (first | apply Kd.R_alloc | apply Kd.R_drewN | apply Kd.R_drew)); exact HO_9.out) hb); have n1_ := Aside0.mk (below_step (by repeat (first | (with_reducible first | exact HB.out | apply below_alloc | apply pw_below_drewN | apply below_drew1) | exact HB.out)) hb); clear HO_9; clear HB; have HO_9 := n0_; have HB := n1_; clear n0_ n1_; (try clear hb); (try clear hb2); (try clear hk); (try clear hi))); try go_wp2_with (first | (go_at_call 15; (with_reducible refine (pumicelaw02_alive.calls k2  t298 _ A78.out).mono ?_); rintro e w79 ⟨rfl, hb⟩; have n0_ := Aside0.mk (Kd.R_below (by (with_reducible repeat (first | apply Kd.R_alloc | apply Kd.R_drewN | apply Kd.R_drew)); exact HO_9.out) hb); have n1_ := Aside0.mk (below_step (by repeat (first | (with_reducible first | exact HB.out | apply below_alloc | apply pw_below_drewN | apply below_drew1) | exact HB.out)) hb); clear HO_9; clear HB; have HO_9 := n0_; have HB := n1_; clear n0_ n1_; (try clear hb); (try clear hb2); (try clear hk); (try clear hi))))
                go_ret
                exact ⟨by first | rfl | exact isEmpty_bne_ _ | (simp [errW_none, errW_some] <;> rfl) | (simp [*, errW_none, errW_some] <;> rfl), by repeat (first | (with_reducible first | exact HB.out | apply below_alloc | apply pw_below_drewN | apply below_drew1) | exact HB.out)⟩
        · rw [if_neg c56] at H
          exact absurd H (by simp)

end Go.Proofs.YthcooheghekplaaDoor.Q
