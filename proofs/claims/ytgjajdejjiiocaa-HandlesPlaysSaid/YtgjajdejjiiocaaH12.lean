/- The document's table: its memory; New, Get, Numbers, Users. -/
import Derived.Test.YtgjajdejjiiocaaH11
namespace Go.Proofs.Ytgjajdejjiiocaa.Q
open Go.RowKit Go.Proofs.YtgjajdejjiiocaaW.PrintWords Go.Proofs.YtgjajdejjiiocaaW.PrintLast Go.Proofs.Ytgjajdejjiiocaa.Sep
set_option linter.unusedVariables false
set_option linter.unusedSimpArgs false
def XD (ty : TypeId) : Bool := ty == 58 || ty == 61
/-- A slot's cells. -/
def sl : Option Fl → List Value
  | none => [.bool false, .int .i64 0, .int .i64 0, .int .i64 0]
  | some f => [.bool true, .int .i64 f.1, .int .i64 f.2.1, .int .i64 f.2.2]
theorem sl_len (o : Option Fl) : (sl o).length = 4 := by cases o <;> rfl
def slots (S : List (Option Fl)) : List Value := S.flatMap sl
theorem slots_at : ∀ (S : List (Option Fl)) (i j : Nat) (o : Option Fl), S[i]? = some o → j < 4 → (slots S)[i * 4 + j]? = (sl o)[j]?
  | [], i, j, o, h, _ => by simp at h
  | x :: S, 0, j, o, h, hj => by
    simp at h
    subst h
    unfold slots
    rw [List.flatMap_cons, List.getElem?_append_left (by rw [sl_len]; omega)]
    simp
  | x :: S, i + 1, j, o, h, hj => by
    have ih := slots_at S i j o (by simpa using h) hj
    unfold slots at ih ⊢
    rw [List.flatMap_cons, List.getElem?_append_right (by rw [sl_len]; omega), sl_len]
    rw [show (i + 1) * 4 + j - 4 = i * 4 + j by omega]
    exact ih
theorem set_app (a b : List Value) (n : Nat) (v : Value) : (a ++ b).set (a.length + n) v = a ++ b.set n v := by
  rw [List.set_append_right _ _ (by omega), show a.length + n - a.length = n by omega]
theorem slots_set : ∀ (S : List (Option Fl)) (i : Nat) (o : Option Fl) (v0 v1 v2 v3 : Value), i < S.length → sl o = [v0, v1, v2, v3] → ((((slots S).set (i * 4) v0).set (i * 4 + 1) v1).set (i * 4 + 2) v2).set (i * 4 + 3) v3 = slots (S.set i o)
  | [], i, o, _, _, _, _, h, _ => by simp at h
  | x :: S, 0, o, v0, v1, v2, v3, _, ho => by
    unfold slots
    rw [List.set_cons_zero, List.flatMap_cons, List.flatMap_cons, ho]
    cases x <;> rfl
  | x :: S, i + 1, o, v0, v1, v2, v3, h, ho => by
    have ih := slots_set S i o v0 v1 v2 v3 (by simpa using h) ho
    unfold slots at ih ⊢
    rw [List.set_cons_succ, List.flatMap_cons, List.flatMap_cons]
    have e : ∀ n, (i + 1) * 4 + n = (sl x).length + (i * 4 + n) := fun n => by rw [sl_len]; omega
    have e0 : (i + 1) * 4 = (sl x).length + (i * 4) := by rw [sl_len]; omega
    rw [e 1, e 2, e 3, e0, set_app, set_app, set_app, set_app, ih]
theorem W_below (w : World) (o : Obj) : Below w.heap.size w (w.alloc o) := (Below.refl _ _).alloc (Nat.le_refl _) o
theorem W_below2 {B : Nat} (w : World) (o : Obj) (h : B ≤ w.heap.size) : Below B w (w.alloc o) := (Below.refl _ _).alloc h o
structure Dab (w : World) (B d lb : Nat) (S : List (Option Fl)) : Prop where
  ls : S.length = 32
  hd : w.heap[d]? = some (Cl [.slice (some ⟨lb, 0, none⟩) 32 32] 58)
  hl : w.heap[lb]? = some (Cl (slots S) 61)
  based : B ≤ d
  basel : B ≤ lb
namespace Dab
variable {w w' : World} {B d lb : Nat} {S : List (Option Fl)} {X : TypeId → Bool}
theorem kept (h : Dab w B d lb S) (k : Only B X w w') (h1 : X 58 = false) (h2 : X 61 = false) : Dab w' B d lb S := ⟨h.ls, k.block _ _ _ _ h1 h.hd, k.block _ _ _ _ h2 h.hl, h.based, h.basel⟩
theorem below (h : Dab w B d lb S) (k : Below w.heap.size w w') (hB : B ≤ w.heap.size) : Dab w' B d lb S := h.kept (X := fun _ => false) (Only.of_below k hB) rfl rfl
theorem any (h : Dab w B d lb S) (e : w'.heap = w.heap) : Dab w' B d lb S := ⟨h.ls, by rw [e]; exact h.hd, by rw [e]; exact h.hl, h.based, h.basel⟩
theorem lower {B' : Nat} (h : Dab w B d lb S) (hB : B' ≤ B) : Dab w B' d lb S := ⟨h.ls, h.hd, h.hl, Nat.le_trans hB h.based, Nat.le_trans hB h.basel⟩
theorem lcell (h : Dab w B d lb S) : w.cell? ⟨d, 0, none⟩ = some (.slice (some ⟨lb, 0, none⟩) 32 32) := cell_of h.hd rfl
theorem cell (h : Dab w B d lb S) {i : Nat} {o : Option Fl} (ho : S[i]? = some o) (j : Nat) (hj : j < 4) {v : Value} (hv : (sl o)[j]? = some v) : w.cell? ⟨lb, i * 4 + j, none⟩ = some v := cell_of h.hl ((slots_at S i j o ho hj).trans hv)
theorem cell0 (h : Dab w B d lb S) {i : Nat} {o : Option Fl} (ho : S[i]? = some o) {v : Value} (hv : (sl o)[0]? = some v) : w.cell? ⟨lb, i * 4, none⟩ = some v := h.cell ho 0 (by decide) hv
theorem at_ (h : Dab w B d lb S) {i : Nat} (hi : i < 32) : S[i]? = some none ∨ ∃ f, S[i]? = some (some f) := by
  have hlt : i < S.length := by rw [h.ls]; exact hi
  have : S[i]? = some S[i] := List.getElem?_eq_getElem hlt
  cases hx : S[i] with
  | none => rw [hx] at this; exact .inl this
  | some f => rw [hx] at this; exact .inr ⟨f, this⟩
theorem ne (h : Dab w B d lb S) : d ≠ lb := fun e => by
  have h1 := h.hd
  rw [e, h.hl] at h1
  injection h1 with h1
  injection h1 with _ e _
  exact absurd e (by decide)
/-- A slot is written. -/
theorem put (h : Dab w B d lb S) {i : Nat} (hi : i < 32) (o : Option Fl) {v0 v1 v2 v3 : Value} (ho : sl o = [v0, v1, v2, v3]) :
    Dab ((((w.setCell ⟨lb, i * 4, none⟩ v0).setCell ⟨lb, i * 4 + 1, none⟩ v1).setCell ⟨lb, i * 4 + 2, none⟩ v2).setCell ⟨lb, i * 4 + 3, none⟩ v3) B d lb (S.set i o) ∧
    Only B XD w ((((w.setCell ⟨lb, i * 4, none⟩ v0).setCell ⟨lb, i * 4 + 1, none⟩ v1).setCell ⟨lb, i * 4 + 2, none⟩ v2).setCell ⟨lb, i * 4 + 3, none⟩ v3) := by
  have h1 := heap_set (i := i * 4) v0 h.hl
  have h2 := heap_set (i := i * 4 + 1) v1 h1
  have h3 := heap_set (i := i * 4 + 2) v2 h2
  have h4 := heap_set (i := i * 4 + 3) v3 h3
  rw [slots_set S i o v0 v1 v2 v3 (by rw [h.ls]; exact hi) ho] at h4
  refine ⟨⟨by simp [h.ls], heap_set_ne _ (heap_set_ne _ (heap_set_ne _ (heap_set_ne _ h.hd h.ne) h.ne) h.ne) h.ne, h4, h.based, h.basel⟩, ?_⟩
  exact ((((Only.refl B XD w).set h.hl h.basel rfl v0).set h1 h.basel rfl v1).set h2 h.basel rfl v2).set h3 h.basel rfl v3
end Dab
theorem slots0 : slots S0 = (List.replicate 32 [Value.bool false, .int .i64 0, .int .i64 0, .int .i64 0]).flatten := by
  unfold slots S0
  rfl
def DNewPost (w : World) (e : Ending) (w' : World) : Prop := ∃ d lb, e = .returned (.pointer (some ⟨d, 0, none⟩)) ∧ Dab w' w.heap.size d lb S0 ∧ Below w.heap.size w w'
theorem info61 : (Try.prog.info? 61).map (fun i => (i.zero, i.size, i.bytes)) = some (some (.agg #[.bool false, .int .i64 0, .int .i64 0, .int .i64 0]), 4, 32) := by kernel_rfl
theorem made61 (w : World) : (Instr.makeSlice 56 (.int .i64 32) (.int .i64 32)).run Try.prog w = .ok (.slice (some ⟨w.heap.size, 0, none⟩) 32 32) (w.alloc (Cl (slots S0) 61)) := by
  obtain ⟨i0, hi, hzz⟩ := Option.map_eq_some_iff.1 info61
  simp only [Prod.mk.injEq] at hzz
  obtain ⟨hz0, hz1, hz2⟩ := hzz
  have hr := run_make (P := Try.prog) w 56 61 i0 (.agg #[.bool false, .int .i64 0, .int .i64 0, .int .i64 0]) Try.underlying56 hi hz0 .i64 .i64 (32 : Int) (32 : Int) (by omega) (by omega) (by rw [hz2]; omega) (by omega)
  rw [hr, hz1]
  have : madeCells (Value.agg #[.bool false, .int .i64 0, .int .i64 0, .int .i64 0]).cells (Int.toNat 32 * 4) = (slots S0).toArray := by kernel_rfl
  rw [this]
  rfl
theorem DNew_calls (w : World) : Calls Try.prog 12 #[] w (DNewPost w) := by
  have hmk := made61 w
  have HD := Aside0.mk (heap_old (Cl [.slice (some ⟨w.heap.size, 0, none⟩) 32 32] 58) (heap_new w (Cl (slots S0) 61)))
  have HE := Aside0.mk (heap_new (w.alloc (Cl (slots S0) 61)) (Cl [.slice (some ⟨w.heap.size, 0, none⟩) 32 32] 58))
  obtain ⟨ss, hss⟩ : ∃ ss, slots S0 = ss := ⟨_, rfl⟩
  rw [hss] at hmk HD HE
  have HSS := Aside0.mk hss
  clear hss
  go_enter Try.func12, Try.ntmps12
  go_wp2
  go_ret
  refine ⟨_, _, rfl, ⟨rfl, ?_, ?_, by simp, Nat.le_refl _⟩, (W_below w _).trans ((W_below _ _).mono (by simp))⟩
  · have := HE.out
    simpa using this
  · rw [HSS.out]
    exact HD.out
section
variable {w : World} {B d lb : Nat} {S : List (Option Fl)}
theorem DGet_some (k : Nat) (f : Fl) (hk : k < 32) (hD : Dab w B d lb S) (hs : S[k]? = some (some f)) : Calls Try.prog 26 #[.pointer (some ⟨d, 0, none⟩), .int .i64 k] w (RetPost w (.tuple #[aggF f, .int .i64 0])) := by
  have HD := hD.below (W_below w (Cl (fcells (0, 0, 0)) 59)) (Nat.le_of_lt (Nat.lt_of_le_of_lt hD.based (Only.lt hD.hd)))
  have p0 := HD.lcell
  have c0 := HD.cell0 hs rfl
  have c1 := HD.cell hs 1 (by decide) rfl
  have c2 := HD.cell hs 2 (by decide) rfl
  have c3 := HD.cell hs 3 (by decide) rfl
  clear HD hD hs
  unfold fcells at p0 c0 c1 c2 c3
  go_enter Try.func26, Try.ntmps26
  go_wp2
  refine bodyPost_ret (results_ct rfl _ _ w.heap.size 59 _ (0, 0) _ rfl (heap_new w _) Try.underlying59 rfl (by kernel_rfl)) rfl ?_
  exact ⟨rfl, W_below w _⟩
theorem DGet_none (k : Nat) (hk : k < 32) (hD : Dab w B d lb S) (hs : S[k]? = some none) : Calls Try.prog 26 #[.pointer (some ⟨d, 0, none⟩), .int .i64 k] w (RetPost w (.tuple #[aggF (0, 0, 0), .int .i64 9])) := by
  have HD := hD.below (W_below w (Cl (fcells (0, 0, 0)) 59)) (Nat.le_of_lt (Nat.lt_of_le_of_lt hD.based (Only.lt hD.hd)))
  have p0 := HD.lcell
  have c0 := HD.cell0 hs rfl
  clear HD hD hs
  unfold fcells at p0 c0
  go_enter Try.func26, Try.ntmps26
  go_wp2
  refine bodyPost_ret (results_ct rfl _ _ w.heap.size 59 _ (0, 0) _ rfl (heap_new w _) Try.underlying59 rfl (by kernel_rfl)) rfl ?_
  exact ⟨rfl, W_below w _⟩
theorem DGet_out (h : Int) (hh : h < 0 ∨ 32 ≤ h) (hD : Dab w B d lb S) : Calls Try.prog 26 #[.pointer (some ⟨d, 0, none⟩), .int .i64 h] w (RetPost w (.tuple #[aggF (0, 0, 0), .int .i64 9])) := by
  have HD := hD.below (W_below w (Cl (fcells (0, 0, 0)) 59)) (Nat.le_of_lt (Nat.lt_of_le_of_lt hD.based (Only.lt hD.hd)))
  have p0 := HD.lcell
  clear HD hD
  unfold fcells at p0
  rcases hh with hh | hh
  · go_enter Try.func26, Try.ntmps26
    go_wp2
    refine bodyPost_ret (results_ct rfl _ _ w.heap.size 59 _ (0, 0) _ rfl (heap_new w _) Try.underlying59 rfl (by kernel_rfl)) rfl ?_
    exact ⟨rfl, W_below w _⟩
  · have h0 : ¬ h < 0 := by omega
    go_enter Try.func26, Try.ntmps26
    go_wp2
    refine bodyPost_ret (results_ct rfl _ _ w.heap.size 59 _ (0, 0) _ rfl (heap_new w _) Try.underlying59 rfl (by kernel_rfl)) rfl ?_
    exact ⟨rfl, W_below w _⟩
theorem DGet_calls (h : Int) (hD : Dab w B d lb S) : Calls Try.prog 26 #[.pointer (some ⟨d, 0, none⟩), .int .i64 h] w (RetPost w (.tuple #[aggF (getS S h).1, .int .i64 (getS S h).2])) := by
  by_cases h0 : 0 ≤ h ∧ h < 32
  · obtain ⟨k, rfl⟩ := Int.eq_ofNat_of_zero_le h0.1
    have hk : k < 32 := by omega
    rcases hD.at_ hk with hs | ⟨f, hs⟩
    · rw [getS_none hs]
      exact DGet_none k hk hD hs
    · rw [getS_yes hs]
      exact DGet_some k f hk hD hs
  · rw [getS_out hD.ls (by omega)]
    exact DGet_out h (by omega) hD
set_option maxHeartbeats 1000000 in
theorem Dnumbers_calls (hD : Dab w B d lb S) (hB : B ≤ w.heap.size) : Calls Try.prog 30 #[.pointer (some ⟨d, 0, none⟩)] w (RowPost w (numsTo S 32)) := by
  have HD := Aside0.mk hD
  have HL := Aside0.mk (numsTo_len S)
  clear hD
  go_enter Try.func30, Try.ntmps30
  go_wp2
  go_loopw [3, 4] (fun out i wr => ∃ (v : Value) (k : Nat), k ≤ 32 ∧ out = v ∧ i = .int .i64 k ∧ Aside0 (Kd.R (Kd.int .i64) 3 wr w.heap.size (fun _ => True) v (numsTo S k)) ∧ Aside0 (Below w.heap.size w wr)) (fun _ i _ => 32 - (intOf i).toNat)
  case atStart => exact ⟨_, 0, by omega, rfl, rfl, ⟨Kd.R_nil _ _ _ _ _⟩, ⟨Below.refl _ _⟩⟩
  case round =>
    obtain ⟨v, k, hk, rfl, rfl, HR, HW⟩ := hrel
    have p0 := (HD.out.below HW.out hB).lcell
    by_cases hlt : k < 32
    · rcases HD.out.at_ hlt with hs | ⟨f, hs⟩
      · have hcell := (HD.out.below HW.out hB).cell0 hs rfl
        have hn := Aside0.mk (numsTo_none hs)
        clear hs
        go_wp2
        go_roundw
        case rel => exact ⟨_, k + 1, by omega, rfl, by go_num, ⟨by rw [hn.out]; exact HR.out⟩, HW⟩
        case measure => simp [intOf]; omega
      · have hcell := (HD.out.below HW.out hB).cell0 hs rfl
        have hn := Aside0.mk (numsTo_some hs)
        clear hs
        go_wp2_with ((with_reducible refine gate_builtin (b := .append) (xs := #[.tmp 26, .tmp 28]) rfl ?_); at_builtin; refine Kd.R_append (Kd.int .i64) (w0 := w) w.heap.size rfl (.tmp 26) (.tmp 28) 22 3 (.int .i64 0) 8 rfl Try.underlying22 info3 rfl (by decide) (by omega) _ (numsTo S k) (k : Int) [.int .i64 k] (fun _ => True) (fun _ => False) rfl rfl ?aP (fun _ hk => hk.elim) (fun _ _ => trivial) HR.out HW.out HW.out.size ?aL ?_; (case aP => exact rfl); (case aL => have := HL.out k; omega); intro v1 w1 ho hb hg hat; have HR1 := Aside0.mk ho; have HW1 := Aside0.mk hb; clear ho hb hg hat)
        go_roundw
        case rel => exact ⟨_, k + 1, by omega, rfl, by go_num, ⟨by rw [hn.out]; exact HR1.out⟩, HW1⟩
        case measure => simp [intOf]; omega
    · obtain rfl : k = 32 := by omega
      go_wp2
      go_ret
      exact ⟨_, rfl, HR.out, HW.out⟩
set_option maxHeartbeats 1000000 in
theorem Dusers_calls (ino : Int) (hD : Dab w B d lb S) : Calls Try.prog 20 #[.pointer (some ⟨d, 0, none⟩), .int .i64 ino] w fun e w' => e = .returned (.int .i64 (usersTo S ino 32 : Nat)) ∧ w = w' := by
  have HD := Aside0.mk hD
  have HL := Aside0.mk (usersTo_le S ino)
  have p0 := hD.lcell
  clear hD
  obtain ⟨u, hu⟩ : ∃ u, usersTo S ino 32 = u := ⟨_, rfl⟩
  rw [hu]
  have HU := Aside0.mk hu
  clear hu
  go_enter Try.func20, Try.ntmps20
  go_wp2
  go_loop [5, 6] (fun n i => ∃ k : Nat, k ≤ 32 ∧ i = .int .i64 k ∧ n = .int .i64 (usersTo S ino k : Nat)) (fun _ i => 32 - (intOf i).toNat)
  case atStart => exact ⟨0, by omega, rfl, rfl⟩
  case round =>
    obtain ⟨k, hk, rfl, rfl⟩ := hrel
    have hle := HL.out k
    by_cases hlt : k < 32
    · rcases HD.out.at_ hlt with hs | ⟨f, hs⟩
      · have hcell := HD.out.cell0 hs rfl
        have hn := Aside0.mk (usersTo_none ino hs)
        clear hs
        go_wp2
        go_round
        case rel => exact ⟨k + 1, by omega, by go_num, by rw [hn.out]⟩
        case measure => simp [intOf]; omega
      · have hcell := HD.out.cell0 hs rfl
        have hc1 := HD.out.cell hs 1 (by decide) rfl
        have hn := usersTo_some ino hs
        clear hs
        by_cases hf : f.1 = ino
        · rw [if_pos hf] at hn
          have HN := Aside0.mk hn
          clear hn
          go_wp2
          go_round
          case rel => exact ⟨k + 1, by omega, by go_num, by rw [HN.out]; go_num⟩
          case measure => simp [intOf]; omega
        · rw [if_neg hf] at hn
          have HN := Aside0.mk hn
          clear hn
          go_wp2
          go_round
          case rel => exact ⟨k + 1, by omega, by go_num, by rw [HN.out]; rfl⟩
          case measure => simp [intOf]; omega
    · obtain rfl : k = 32 := by omega
      go_wp2
      go_ret
      exact ⟨congrArg (fun q : Nat => Ending.returned (.int .i64 (q : Int))) HU.out, rfl⟩
end
end Go.Proofs.Ytgjajdejjiiocaa.Q
