/- A1, G0, G1, G2, G3, G4, G6, G7, G9, G10, L0, LPropsSums -/
import Derived.Test.YtlpnggaeepjjfaaGreatDoorRows
import Derived.LaidLaws
import Derived.LaidHandle
import Derived.MakeChecks
import Derived.ChangeVars
import Derived.Handed
import Derived.HandedShaped
import Derived.Shelf.Vars
import Derived.Stop.LaidErr
import Derived.Test.YtlpnggaeepjjfaaGreatDoorTie
import Derived.Test.YtlpnggaeepjjfaaGreatDoorCards
import Derived.WalkKit
import Derived.ProofKit
import Derived.OpenShut
import Derived.ShutString
import Derived.ChangeOld
import Derived.Below
import Derived.SizedLaws
import Derived.JoinedCond
import Derived.Deep.CondSized
import Derived.JoinedOf
import Derived.Stop.Joined
import Derived.Deep.DeepHandedRow
import Derived.SevenTiedAt
import Derived.Test.YtlpnggaeepjjfaaGreatDoorKa
import Derived.Test.YtlpnggaeepjjfaaGreatDoorKb
import Derived.Test.YtlpnggaeepjjfaaGreatDoorKc
import Derived.Test.YtlpnggaeepjjfaaGreatDoorKe
namespace Go.Proofs.YtlpnggaeepjjfaaGreatDoor.Bo
open Go.RowKit
set_option linter.unusedVariables false
set_option linter.unusedSimpArgs false
/-- x stands ahead of y. -/
def Ah (L : List Rw) (x y : Nat) : Prop := dirtyOf L y < dirtyOf L x ∨ (dirtyOf L y = dirtyOf L x ∧ x < y)
theorem perm_eq {α : Type} {R : α → α → Prop} (has : ∀ x y, R x y → ¬ R y x) : ∀ (l m : List α), l.Pairwise R → m.Pairwise R → l.Perm m → l = m
  | [], m, _, _, h => by rw [List.nil_perm.1 h]
  | x :: l, m, hl, hm, h => by
    cases m with
    | nil => exact absurd h.symm (by simp)
    | cons y m =>
      have hx : x = y := by
        rcases List.mem_cons.1 (h.mem_iff.1 (List.mem_cons_self ..)) with e | e
        · exact e
        · rcases List.mem_cons.1 (h.symm.mem_iff.1 (List.mem_cons_self ..)) with e2 | e2
          · exact e2.symm
          · exact absurd ((List.pairwise_cons.1 hl).1 y e2) (has _ _ ((List.pairwise_cons.1 hm).1 x e))
      subst hx
      rw [perm_eq has l m (List.pairwise_cons.1 hl).2 (List.pairwise_cons.1 hm).2 ((List.perm_cons x).1 h)]
theorem ah_asym (L : List Rw) (x y : Nat) (h : Ah L x y) : ¬ Ah L y x := by unfold Ah at *; omega
theorem leN_iff (L : List Rw) (x y : Nat) : leN L x y = true ↔ (x = y ∨ Ah L x y) := by
  by_cases e : x = y
  · subst e
    unfold leN
    rw [Bool.not_eq_true', decide_eq_false_iff_not, ordI_lt]
    omega
  · unfold leN Ah
    rw [Bool.not_eq_true', decide_eq_false_iff_not, ordI_lt]
    omega
theorem ah_trans (L : List Rw) (x y z : Nat) (h : Ah L x y) (k : Ah L y z) : Ah L x z := by unfold Ah at *; omega
theorem ah_tri (L : List Rw) (x y : Nat) : x = y ∨ Ah L x y ∨ Ah L y x := by unfold Ah; omega
theorem sortN_pair (L : List Rw) (xs : List Nat) (hn : xs.Nodup) : (sortN L xs).Pairwise (Ah L) := by
  have h := List.pairwise_mergeSort (le := leN L) (fun a b c => by
    rw [leN_iff, leN_iff, leN_iff]
    rintro (rfl | h) (rfl | k)
    · exact .inl rfl
    · exact .inr k
    · exact .inr h
    · exact .inr (ah_trans L _ _ _ h k)) (fun a b => by
    rw [Bool.or_eq_true, leN_iff, leN_iff]
    rcases ah_tri L a b with h | h | h
    · exact .inl (.inl h)
    · exact .inl (.inr h)
    · exact .inr (.inr h)) xs
  have hd : (xs.mergeSort (leN L)).Nodup := (List.mergeSort_perm xs (leN L)).nodup_iff.2 hn
  unfold sortN
  refine (List.pairwise_iff_getElem.2 ?_)
  intro i j hi hj hij
  have h1 := List.pairwise_iff_getElem.1 h i j hi hj hij
  have h2 := List.pairwise_iff_getElem.1 hd i j hi hj hij
  rcases (leN_iff _ _ _).1 h1 with e | e
  · exact absurd e h2
  · exact e
theorem take_one {out : List Nat} {j : Nat} (hj : j < out.length) : out.take (j + 1) = out.take j ++ [out.getD j 0] := by
  rw [List.take_add_one, List.getD_eq_getElem?_getD, List.getElem?_eq_getElem hj]; rfl
theorem insK_spec (L : List Rw) (x : Nat) (out : List Nat) : ∀ j, j ≤ out.length →
    (insK L x out j = (out.take j, false) ∧ ∀ y ∈ out.take j, dirtyOf L x ≤ dirtyOf L y) ∨
    (∃ a y b, out.take j = a ++ y :: b ∧ insK L x out j = (a ++ x :: y :: b, true) ∧ (∀ z ∈ a, dirtyOf L x ≤ dirtyOf L z) ∧ dirtyOf L y < dirtyOf L x) := by
  intro j
  induction j with
  | zero => intro _; left; simp [insK]
  | succ j ih =>
    intro hj
    rw [insK, take_one (by omega)]
    rcases ih (by omega) with ⟨e, hA⟩ | ⟨a, y, b, ht, e, hA, hY⟩
    · rw [e]
      by_cases hd : dirtyOf L x > dirtyOf L (out.getD j 0)
      · right
        refine ⟨out.take j, out.getD j 0, [], rfl, ?_, hA, hd⟩
        rw [if_pos (by simp only [Bool.not_false, Bool.true_and, decide_eq_true_eq]; exact hd)]
        simp
      · left
        rw [if_neg (by simp only [Bool.not_false, Bool.true_and, decide_eq_true_eq]; exact hd)]
        refine ⟨rfl, fun z hz => ?_⟩
        rcases List.mem_append.1 hz with hz | hz
        · exact hA z hz
        · rw [List.mem_singleton] at hz; subst hz; omega
    · right
      rw [e, if_neg (by simp), ht]
      exact ⟨a, y, b ++ [out.getD j 0], by simp, by simp, hA, hY⟩
theorem insF_spec (L : List Rw) (x : Nat) (out : List Nat) (hp : out.Pairwise (Ah L)) (hx : ∀ y ∈ out, y < x) : (insF L x out).Pairwise (Ah L) ∧ (insF L x out).Perm (x :: out) := by
  unfold insF
  rcases insK_spec L x out out.length (Nat.le_refl _) with ⟨e, hA⟩ | ⟨a, y, b, ht, e, hA, hY⟩
  · rw [e, if_neg (by simp), List.take_length] at *
    refine ⟨List.pairwise_append.2 ⟨hp, List.pairwise_singleton _ _, fun z hz w hw => ?_⟩, ?_⟩
    · rw [List.mem_singleton] at hw
      subst hw
      have h1 := hA z hz
      have h2 := hx z hz
      unfold Ah
      omega
    · exact List.perm_append_comm.trans (List.Perm.refl _)
  · rw [e, if_pos rfl]
    rw [List.take_length] at ht
    subst ht
    obtain ⟨p1, p2, p3⟩ := List.pairwise_append.1 hp
    obtain ⟨p4, p5⟩ := List.pairwise_cons.1 p2
    refine ⟨List.pairwise_append.2 ⟨p1, List.pairwise_cons.2 ⟨fun z hz => ?_, p2⟩, fun z hz w hw => ?_⟩, ?_⟩
    · left
      rcases List.mem_cons.1 hz with rfl | hz
      · exact hY
      · have := p4 z hz; unfold Ah at this; omega
    · rcases List.mem_cons.1 hw with rfl | hw
      · have h1 := hA z hz
        have h2 := hx z (List.mem_append.2 (.inl hz))
        unfold Ah
        omega
      · exact p3 z hz w hw
    · exact List.perm_middle
theorem onK_asc (use : Int) (L : List Rw) (k : Nat) : (onK use L k).Pairwise (· < ·) := by
  induction k with
  | zero => exact List.Pairwise.nil
  | succ k ih =>
    rw [onK]
    refine List.pairwise_append.2 ⟨ih, ?_, fun x hx y hy => ?_⟩
    · split
      · exact List.pairwise_singleton _ _
      · exact List.Pairwise.nil
    · have := onK_lt use L k x hx
      split at hy
      · rw [List.mem_singleton] at hy; omega
      · simp at hy
theorem onR_asc (use : Int) (L : List Rw) : (onR use L).Pairwise (· < ·) := by
  unfold onR
  split
  · exact List.Pairwise.nil
  · exact onK_asc _ _ _
theorem rvK_spec (L : List Rw) (xs : List Nat) (hs : xs.Pairwise (· < ·)) : ∀ k, k ≤ xs.length → (rvK L xs k).Pairwise (Ah L) ∧ (rvK L xs k).Perm ((xs.take k).filter (badR L)) := by
  intro k
  induction k with
  | zero => intro _; exact ⟨List.Pairwise.nil, by simp [rvK]⟩
  | succ k ih =>
    intro hk
    obtain ⟨h1, h2⟩ := ih (by omega)
    rw [take_one (by omega), List.filter_append, rvK]
    by_cases hb : badR L (xs.getD k 0) = true
    · rw [if_pos hb, List.filter_cons, if_pos hb]
      have hlt : ∀ y ∈ rvK L xs k, y < xs.getD k 0 := by
        intro y hy
        have hy2 := (List.mem_filter.1 (h2.mem_iff.1 hy)).1
        obtain ⟨i, hi, rfl⟩ := List.getElem_of_mem hy2
        rw [List.length_take] at hi
        rw [List.getElem_take, List.getD_eq_getElem?_getD, List.getElem?_eq_getElem (by omega)]
        exact List.pairwise_iff_getElem.1 hs i k (by omega) (by omega) (by omega)
      obtain ⟨h3, h4⟩ := insF_spec L _ _ h1 hlt
      refine ⟨h3, h4.trans ?_⟩
      refine (List.Perm.cons _ h2).trans ?_
      exact (List.perm_append_comm (l₁ := [xs.getD k 0])).trans (List.Perm.refl _)
    · rw [if_neg hb, List.filter_cons, if_neg hb]
      refine ⟨h1, ?_⟩
      simpa using h2
theorem bad_eq {size : Int} {L : List Rw} (hO : Ok size L) (i : Nat) : badN L i = badR L i := by
  unfold badN badR dirtyOf
  congr 1
  by_cases hi : i < L.length
  · have := hO.rows _ (getD_mem hi)
    rw [← Bool.coe_iff_coe]
    simp only [decide_eq_true_eq, Bool.not_eq_true', decide_eq_false_iff_not]
    omega
  · rw [List.getD_eq_getElem?_getD, List.getElem?_eq_none (by omega)]
    rfl
theorem onK_out {size : Int} {L : List Rw} (hO : Ok size L) (use : Int) (hu : use < 0 ∨ 3 < use) (k : Nat) (hk : k ≤ L.length) : onK use L k = [] := by
  induction k with
  | zero => rfl
  | succ k ih =>
    have := hO.rows _ (getD_mem (L := L) (i := k) (by omega))
    rw [onK, ih (by omega), if_neg (by omega)]
    rfl
theorem onR_out {size : Int} {L : List Rw} (hO : Ok size L) (use : Int) (hu : use < 1 ∨ 3 < use) : onR use L = [] := by
  unfold onR
  split
  · rfl
  · exact onK_out hO use (by omega) _ (Nat.le_refl _)
theorem vic_eq {size : Int} {L : List Rw} (hO : Ok size L) (use : Int) : vicR use L = rvicR use L := by
  unfold vicR rvicR
  split
  · rename_i h
    rw [onR_out hO use h]
    unfold sortN
    simp
  · obtain ⟨h1, h2⟩ := rvK_spec L (onR use L) (onR_asc _ _) _ (Nat.le_refl _)
    rw [List.take_length] at h2
    have hf : (onR use L).filter (badN L) = (onR use L).filter (badR L) := List.filter_congr fun i _ => bad_eq hO i
    rw [hf]
    have hnd : ((onR use L).filter (badR L)).Nodup := by
      refine List.Pairwise.filter _ ?_
      exact (onR_asc use L).imp fun h => by omega
    exact perm_eq (ah_asym L) _ _ (sortN_pair L _ hnd) h1 ((List.mergeSort_perm _ _).trans h2.symm)
end Go.Proofs.YtlpnggaeepjjfaaGreatDoor.Bo

namespace Go.Proofs.YtlpnggaeepjjfaaGreatDoor.Bo
open Go.RowKit Go.Sort Go.Proofs.YtlpnggaeepjjfaaGreatDoorW.PrintWords Go.Proofs.YtlpnggaeepjjfaaGreatDoorW.PrintLast Go.Proofs.YtlpnggaeepjjfaaGreatDoor.Cut
set_option linter.unusedVariables false
set_option linter.unusedSimpArgs false
theorem ints_l0 (l : List Int) (hl : l.length < 4611686018427387904) : ∀ (n i : Nat), i + n = l.length → Z.pumicelaw14_Ints.l0 (n + 1) l l (i : Int) = some true := by
  intro n
  induction n with
  | zero =>
    intro i hi
    rw [Z.pumicelaw14_Ints.l0, if_neg (by omega)]
  | succ n ih =>
    intro i hi
    rw [Z.pumicelaw14_Ints.l0, if_pos (by omega), if_pos (by omega), if_pos (by omega), if_pos rfl, w64 (by omega) (by omega)]
    exact ih (i + 1) (by omega)
theorem ints_calls (v1 v2 : Value) (l : List Int) (hl : l.length < 4611686018427387904) (b1 b2 : Nat) (w : World) (h1 : Kd.R (Kd.int .i64) 3 w b1 (fun _ => True) v1 l) (h2 : Kd.R (Kd.int .i64) 3 w b2 (fun _ => True) v2 l) :
    Calls Tryz.prog 29 #[v1, v2] w fun e w' => e = .returned (.bool true) ∧ Below w.heap.size w w' := by
  obtain ⟨A1, c1, rfl⟩ := Kd.R_slice h1
  obtain ⟨A2, c2, rfl⟩ := Kd.R_slice h2
  have r1 := Kd.R_reads' h1
  have r2 := Kd.R_reads' h2
  refine (Z.pumicelaw14_Ints.calls (l.length + 1) A1 c1 l A2 c2 l true w r1.2.2 ?_ r2.2.2 ?_ ?_).mono ?_
  · exact r1.2.1
  · exact r2.2.1
  · unfold Z.pumicelaw14_Ints.f
    rw [if_pos rfl]
    exact ints_l0 l hl l.length 0 (by omega)
  · rintro e w' ⟨he, hd⟩
    exact ⟨he, hd.below⟩
end Go.Proofs.YtlpnggaeepjjfaaGreatDoor.Bo

namespace Go.Proofs.YtlpnggaeepjjfaaGreatDoor.Bo
open Go.RowKit Go.Sort Go.Proofs.YtlpnggaeepjjfaaGreatDoorW.PrintWords Go.Proofs.YtlpnggaeepjjfaaGreatDoorW.PrintLast Go.Proofs.YtlpnggaeepjjfaaGreatDoor.Cut
set_option linter.unusedVariables false
set_option linter.unusedSimpArgs false
def OpP (tb tr : TypeId) (b q : Nat) (size : Int) (W : World) (er : Int) (L : List Rw) (e : Ending) (w' : World) : Prop := e = .returned (.int .i64 er) ∧ Bk tb tr w' b q size L ∧ W.grownBy w' (some q)
section
variable {W : World} {b q : Nat} {size er : Int} {L L' : List Rw}
theorem opp {tb tr : TypeId} {r : Int × List Rw} (h : r = (er, L')) {f : FuncId} {args : Array Value} (hc : Calls Tryz.prog f args W (OpPost tb tr b q size W r)) : Calls Tryz.prog f args W (OpP tb tr b q size W er L') := by
  subst h
  exact hc.mono fun e w' h => ⟨h.1, h.2.1, h.2.2.2⟩
theorem take_p (S : Bk 71 36 W b q size L) (a n : Int) (h : takeR L a n = (er, L')) : Calls Tryz.prog 12 #[.pointer (some ⟨b, 0, none⟩), .int .i64 a, .int .i64 n] W (OpP 71 36 b q size W er L') := opp h (take_calls S a n)
theorem use_p (S : Bk 71 36 W b q size L) (hO : Ok size L) (a n : Int) (h : useR size L a n = (er, L')) : Calls Tryz.prog 13 #[.pointer (some ⟨b, 0, none⟩), .int .i64 a, .int .i64 n] W (OpP 71 36 b q size W er L') := opp h (use_calls S hO a n)
theorem kill_p (S : Bk 71 36 W b q size L) (hO : Ok size L) (a n : Int) (h : killR L a n = (er, L')) : Calls Tryz.prog 14 #[.pointer (some ⟨b, 0, none⟩), .int .i64 a, .int .i64 n] W (OpP 71 36 b q size W er L') := opp h (kill_calls S hO a n)
theorem close_p (S : Bk 71 36 W b q size L) (a : Int) (h : closeR L a = (er, L')) : Calls Tryz.prog 15 #[.pointer (some ⟨b, 0, none⟩), .int .i64 a] W (OpP 71 36 b q size W er L') := opp h (close_calls S a)
theorem free_p (S : Bk 71 36 W b q size L) (a : Int) (h : freeR L a = (er, L')) : Calls Tryz.prog 16 #[.pointer (some ⟨b, 0, none⟩), .int .i64 a] W (OpP 71 36 b q size W er L') := opp h (free_calls S a)
end
/-- A row that was built of one number. -/
theorem one_row (W : World) (x : Int) (W' : World) (h : W'.heap[W.heap.size]? = some (.cells #[.int .i64 x] 3 (0, 0))) : Kd.R (Kd.int .i64) 3 W' W.heap.size (fun _ => True) (.slice (some ⟨W.heap.size, 0, none⟩) 1 1) [x] :=
  Kd.R_of_own (xs := [x]) ⟨rfl, .inr ⟨_, 1, _, rfl, Nat.le_refl _, h, Nat.le_refl _, by simp [maxLen], rfl, rfl⟩⟩ (fun _ _ => trivial)
def lA0 : List Rw := List.replicate 4 zRw
def lA1 : List Rw := [zRw, ⟨2, 0, 0, false⟩, zRw, zRw]
def lA2 : List Rw := [zRw, ⟨2, 60, 60, false⟩, zRw, zRw]
def lA3 : List Rw := [zRw, ⟨2, 60, 40, false⟩, zRw, zRw]
def lA4 : List Rw := [zRw, ⟨2, 60, 40, true⟩, zRw, zRw]
theorem okA {L : List Rw} (h : L.length = 4 ∧ ∀ x ∈ L, 0 ≤ x.use ∧ x.use ≤ 3 ∧ 0 ≤ x.live ∧ x.live ≤ x.used ∧ x.used ≤ 100) : Ok 100 L := ⟨by decide, by decide, by rw [h.1]; decide, h.2⟩
theorem okA1 : Ok 100 lA1 := okA (by decide)
theorem okA2 : Ok 100 lA2 := okA (by decide)
theorem okA4 : Ok 100 lA4 := okA (by decide)
theorem itoa_one {n : Int} (h0 : 0 ≤ n) (h1 : n < 10) : Lib.itoa n = [UInt8.ofNat (48 + n.toNat)] := by
  rw [itoa_dec n h0, Lib.decDigits, dif_pos (by omega)]
theorem dec_two (u : Nat) (h0 : ¬ u < 10) (h1 : u < 100) : Lib.decDigits u = [UInt8.ofNat (48 + u / 10), UInt8.ofNat (48 + u % 10)] := by
  rw [Lib.decDigits, dif_neg h0, Lib.decDigits, dif_pos (by omega)]
  rfl
theorem dec_100 : Lib.decDigits 100 = [49, 48, 48] := by
  rw [Lib.decDigits, dif_neg (by decide), dec_two _ (by decide) (by decide)]
  rfl
theorem itoa_100 : Lib.itoa 100 = [49, 48, 48] := by rw [itoa_dec 100 (by decide)]; exact dec_100
theorem itoa_60 : Lib.itoa 60 = [54, 48] := by rw [itoa_dec 60 (by decide)]; exact dec_two 60 (by decide) (by decide)
theorem itoa_40 : Lib.itoa 40 = [52, 48] := by rw [itoa_dec 40 (by decide)]; exact dec_two 40 (by decide) (by decide)
theorem itoa_4 : Lib.itoa 4 = [52] := itoa_one (by decide) (by decide)
theorem itoa_1 : Lib.itoa 1 = [49] := itoa_one (by decide) (by decide)
theorem itoa_2 : Lib.itoa 2 = [50] := itoa_one (by decide) (by decide)
theorem itoa_0 : Lib.itoa 0 = [48] := itoa_one (by decide) (by decide)
theorem textA : textR 100 lA4 = ⟨#[52, 32, 49, 48, 48, 10, 49, 32, 50, 32, 54, 48, 32, 52, 48, 32, 99, 108, 111, 115, 101, 100, 10]⟩ := by
  have e : endl (sp2 (lA4.length : Int) 100 :: linesK lA4 lA4.length) = endl [sp2 4 100, lineT 1 ⟨2, 60, 40, true⟩] := rfl
  rw [textR_lines, e]
  show bs (endl [Lib.itoa 4 ++ 32 :: Lib.itoa 100, (Lib.itoa 1 ++ 32 :: (Lib.itoa 2 ++ 32 :: (Lib.itoa 60 ++ 32 :: Lib.itoa 40))) ++ closedB]) = _
  rw [itoa_4, itoa_100, itoa_1, itoa_2, itoa_60, itoa_40]
  rfl
def badT : ByteArray := ⟨#[49, 32, 49, 10, 48, 48, 32, 49, 32, 48, 32, 48, 10]⟩
theorem parse_bad : parseP badT = none := by
  cases h : parseP badT with
  | none => rfl
  | some p =>
    obtain ⟨size, L⟩ := p
    obtain ⟨hO, ht⟩ := parseP_sound h
    have h1 := hO.ok.lo; have h2 := hO.ok.hi; have h3 := hO.ok.len; have h4 := hO.pos
    have sn : Sml (L.length : Int) := ⟨by omega, by omega⟩
    have ss : Sml size := ⟨by omega, by omega⟩
    have hl : (cutC 10 badT.data.toList).map mkB = (sp2 (L.length : Int) size :: linesK L L.length ++ [[]]).map mkB := by
      rw [← ht, textR_lines]
      show (cutC 10 (endl _)).map mkB = _
      rw [cut_endl]
      intro l hl
      rcases List.mem_cons.1 hl with rfl | hl
      · exact sp2_no10 sn ss
      · exact lines_no10 hO.ok _ (Nat.le_refl _) l hl
    have hc : cutC 10 badT.data.toList = [[49, 32, 49], [48, 48, 32, 49, 32, 48, 32, 48], []] := by decide
    have hinj : ∀ a b : List (List UInt8), a.map mkB = b.map mkB → a = b := fun a b h => by
      have h2 := congrArg (List.map fun x : ByteArray => x.data.toList) h
      rw [List.map_map, List.map_map] at h2
      have hid : ((fun x : ByteArray => x.data.toList) ∘ mkB) = id := rfl
      rw [hid, List.map_id, List.map_id] at h2
      exact h2
    have he := hinj _ _ hl
    rw [hc] at he
    have hlen := congrArg List.length he
    simp only [List.length_cons, List.length_nil, List.length_append, List.cons_append] at hlen
    have he1 : linesK L L.length ++ [[]] = [[48, 48, 32, 49, 32, 48, 32, 48], []] := by
      have := List.cons.inj he
      exact this.2.symm
    obtain ⟨i, x, hi, hx⟩ : ∃ i x, Sml ((i : Nat) : Int) ∧ [48, 48, 32, 49, 32, 48, 32, 48] = lineT i x := by
      have hmem : ∀ k, k ≤ L.length → ∀ l ∈ linesK L k, ∃ i x, Sml ((i : Nat) : Int) ∧ l = lineT i x := by
        intro k
        induction k with
        | zero => intro _ l hl; simp [linesK] at hl
        | succ k ih =>
          intro hk l hl
          rw [linesK] at hl
          rcases List.mem_append.1 hl with hl | hl
          · exact ih (by omega) l hl
          · split at hl
            · simp at hl
            · rw [List.mem_singleton] at hl
              exact ⟨k, _, (row_sml hO.ok (i := k) (by omega)).1, hl⟩
      have h5 : linesK L L.length = [[48, 48, 32, 49, 32, 48, 32, 48]] := List.append_cancel_right (bs := [[]]) he1
      exact hmem L.length (Nat.le_refl _) _ (by rw [h5]; exact List.mem_singleton.2 rfl)
    unfold lineT sp4 at hx
    have hp : [48, 48] = Lib.itoa (i : Int) := by
      have h6 := cutR_app (Lib.itoa (i : Int)) (Lib.itoa x.use ++ 32 :: (Lib.itoa x.used ++ 32 :: Lib.itoa x.live) ++ if x.closed = true then closedB else []) 32 (no32 hi)
      have h7 : cutR (bs [48, 48, 32, 49, 32, 48, 32, 48]) 32 = (bs [48, 48], bs [49, 32, 48, 32, 48], true) := cutR_app [48, 48] [49, 32, 48, 32, 48] 32 (by decide)
      rw [hx] at h7
      have h8 : Lib.itoa (i : Int) ++ 32 :: (Lib.itoa x.use ++ 32 :: (Lib.itoa x.used ++ 32 :: Lib.itoa x.live)) ++ (if x.closed = true then closedB else []) = Lib.itoa (i : Int) ++ 32 :: (Lib.itoa x.use ++ 32 :: (Lib.itoa x.used ++ 32 :: Lib.itoa x.live) ++ if x.closed = true then closedB else []) := by simp
      rw [h8, h6] at h7
      exact (congrArg (fun p : ByteArray × ByteArray × Bool => p.1.data.toList) h7).symm
    have hv := val_itoa hi
    rw [← hp] at hv
    have h0 : (i : Int) = 0 := hv.symm.trans rfl
    rw [h0, itoa_0] at hp
    exact absurd hp (by decide)
end Go.Proofs.YtlpnggaeepjjfaaGreatDoor.Bo

namespace Go.Proofs.YtlpnggaeepjjfaaGreatDoor.Bo
open Go.RowKit Go.Sort Go.Proofs.YtlpnggaeepjjfaaGreatDoorW.PrintWords Go.Proofs.YtlpnggaeepjjfaaGreatDoorW.PrintLast Go.Proofs.YtlpnggaeepjjfaaGreatDoor.Cut
set_option linter.unusedVariables false
set_option linter.unusedSimpArgs false
theorem vicA : toI (vicR 2 lA4) = [1] := by
  rw [vic_eq okA4 2]
  decide
theorem totA : totK lA4 lA4.length = (3, 60, 40) := by decide
set_option maxRecDepth 100000 in
set_option maxHeartbeats 1000000 in
theorem alive_calls (w : World) (hL : Lw w) : Calls Tryz.prog 10 #[] w fun e w' => e = .returned (.bool true) ∧ Below w.heap.size w w' := by
  have HL := Aside0.mk hL
  have HNew := Aside0.mk (show ∀ W, Calls Tryz.prog 20 #[.int .i64 4, .int .i64 100] W fun e w' => e = .returned (.tuple #[.pointer (some ⟨W.heap.size + 1, 0, none⟩), .int .i64 0]) ∧ Bk 71 36 w' (W.heap.size + 1) W.heap.size 100 lA0 ∧ Below W.heap.size W w' from fun W => new_ok 4 100 W (by decide) (by decide) (by decide) (by decide))
  have HT1 := Aside0.mk (show takeR lA0 1 2 = (0, lA1) by decide)
  have HT2 := Aside0.mk (show useR 100 lA1 1 60 = (0, lA2) by decide)
  have HT3 := Aside0.mk (show killR lA2 1 20 = (0, lA3) by decide)
  have HT4 := Aside0.mk (show closeR lA3 1 = (0, lA4) by decide)
  have HT5 := Aside0.mk (show useR 100 lA4 1 1 = (16, lA4) by decide)
  have HT6 := Aside0.mk (show freeR lA4 1 = (16, lA4) by decide)
  have HTo := Aside0.mk (show ∀ (W : World) (b q : Nat), Bk 71 36 W b q 100 lA4 → Calls Tryz.prog 25 #[.pointer (some ⟨b, 0, none⟩)] W (TotPost W (3, 60, 40)) from fun W b q S => by have h := totals_calls S okA4; rw [totA] at h; exact h)
  have HPa := Aside0.mk (show ∀ W, Lw W → Calls Tryz.prog 19 #[.string ⟨#[49, 32, 49, 10, 48, 48, 32, 49, 32, 48, 32, 48, 10]⟩] W fun e w' => e = .returned (.tuple #[.pointer none, .int .i64 22]) ∧ Below W.heap.size W w' from fun W h => by
    refine (parse_calls badT W (by decide) h).mono ?_
    rintro e w' ⟨hb, ⟨_, he⟩ | ⟨size, L, b, q, hr, _⟩⟩
    · exact ⟨he, hb⟩
    · rw [parse_bad] at hr; cases hr)
  have HVi := Aside0.mk (show ∀ (W : World) (b q : Nat), Bk 71 36 W b q 100 lA4 → Calls Tryz.prog 17 #[.pointer (some ⟨b, 0, none⟩), .int .i64 2] W (RowPost W [1]) from fun W b q S => by have h := victims_calls S okA4 2; rw [vicA] at h; exact h)
  have htx : ((⟨#[52, 32, 49, 48, 48, 10, 49, 32, 50, 32, 54, 48, 32, 52, 48, 32, 99, 108, 111, 115, 101, 100, 10]⟩ : ByteArray).toList == [52, 32, 49, 48, 48, 10, 49, 32, 50, 32, 54, 48, 32, 52, 48, 32, 99, 108, 111, 115, 101, 100, 10]) = true := by rw [ByteArray.toList_eq]; rfl
  clear hL
  go_enter Tryz.func10, Tryz.ntmps10
  go_wp2_with (first | (go_at_call 20; (with_reducible refine (HNew.out _).mono ?_); rintro e w1 ⟨rfl, hS, hb⟩; have HS1 := Aside0.mk hS; have HB1 := Aside0.mk hb; clear hS hb) | (go_at_call 12; (with_reducible refine (take_p HS1.out 1 2 HT1.out).mono ?_); rintro e w2 ⟨rfl, hS, hg⟩; have HS2 := Aside0.mk hS; have HB2 := Aside0.mk (bgb HB1.out hg (Nat.le_refl _)); clear hS hg) | (go_at_call 13; (with_reducible refine (use_p HS2.out okA1 1 60 HT2.out).mono ?_); rintro e w3 ⟨rfl, hS, hg⟩; have HS3 := Aside0.mk hS; have HB3 := Aside0.mk (bgb HB2.out hg (Nat.le_refl _)); clear hS hg) | (go_at_call 14; (with_reducible refine (kill_p HS3.out okA2 1 20 HT3.out).mono ?_); rintro e w4 ⟨rfl, hS, hg⟩; have HS4 := Aside0.mk hS; have HB4 := Aside0.mk (bgb HB3.out hg (Nat.le_refl _)); clear hS hg) | (go_at_call 15; (with_reducible refine (close_p HS4.out 1 HT4.out).mono ?_); rintro e w5 ⟨rfl, hS, hg⟩; have HS5 := Aside0.mk hS; have HB5 := Aside0.mk (bgb HB4.out hg (Nat.le_refl _)); clear hS hg) | (go_at_call 25; (with_reducible refine (HTo.out _ _ _ HS5.out).mono ?_); rintro e w6 ⟨rfl, hb⟩; have HS6 := Aside0.mk (HS5.out.on hb); have HB6 := Aside0.mk (btr HB5.out hb); clear hb; dsimp only) | (go_at_call 19; (with_reducible refine (HPa.out _ (HL.out.on HB6.out)).mono ?_); rintro e w7 ⟨rfl, hb⟩; have HS7 := Aside0.mk (HS6.out.on hb); have HB7 := Aside0.mk (btr HB6.out hb); clear hb) | (go_at_call 13; (with_reducible refine (use_p HS7.out okA4 1 1 HT5.out).mono ?_); rintro e w8 ⟨rfl, hS, hg⟩; have HS8 := Aside0.mk hS; have HB8 := Aside0.mk (bgb HB7.out hg (Nat.le_refl _)); clear hS hg) | (go_at_call 16; (with_reducible refine (free_p HS8.out 1 HT6.out).mono ?_); rintro e w9 ⟨rfl, hS, hg⟩; have HS9 := Aside0.mk hS; have HB9 := Aside0.mk (bgb HB8.out hg (Nat.le_refl _)); clear hS hg) | (go_at_call 17; (with_reducible refine (HVi.out _ _ _ HS9.out).mono ?_); rintro e w10 ⟨v, rfl, hr, hb⟩; have HS10 := Aside0.mk (HS9.out.on hb); have HB10 := Aside0.mk (btr HB9.out hb); have HRv := Aside0.mk hr; obtain ⟨A, c, rfl⟩ := Kd.R_slice hr; have HRw := HRv; clear hr hb HRv; rw [List.length_singleton] at *) | (go_at_call 29; go_loud (with_reducible refine (ints_calls _ _ [1] (by decide) _ _ _ (Kd.R_alloc HRw.out _) (one_row _ 1 _ (blk_new _ _))).mono ?_); rintro e w11 ⟨rfl, hb⟩; have HS11 := Aside0.mk ((HS10.out.on (below_alloc (Below.refl _ _) _)).on hb); have HB11 := Aside0.mk (btr (below_alloc HB10.out _) hb); clear hb) | (go_at_call 11; go_loud (with_reducible refine (text_calls HS11.out okA4 (HL.out.on HB11.out)).mono ?_); rintro e w12 ⟨rfl, hb⟩; have HB12 := Aside0.mk (btr HB11.out hb); clear hb; rw [textA]))
  go_ret
  exact ⟨rfl, HB12.out⟩
end Go.Proofs.YtlpnggaeepjjfaaGreatDoor.Bo

namespace Go.Proofs.YtlpnggaeepjjfaaGreatDoor.Bo
open Go.RowKit Go.Sort Go.Proofs.YtlpnggaeepjjfaaGreatDoorW.PrintWords Go.Proofs.YtlpnggaeepjjfaaGreatDoorW.PrintLast Go.Proofs.YtlpnggaeepjjfaaGreatDoor.Cut
set_option linter.unusedVariables false
set_option linter.unusedSimpArgs false
/-- What a call of that kind does. -/
def opR (size : Int) (L : List Rw) (k leb n : Int) : Int × List Rw :=
  if k = 1 then takeR L leb n else if k = 2 then useR size L leb n else if k = 3 then killR L leb n else if k = 4 then closeR L leb else if k = 5 then freeR L leb else (0, L)
theorem op_Ok2 {size : Int} {L : List Rw} (hO : Ok2 size L) (k leb n : Int) : Ok2 size (opR size L k leb n).2 := by
  unfold opR
  split
  · exact take_Ok2 hO _ _
  · split
    · exact use_Ok2 hO _ _
    · split
      · exact kill_Ok2 hO _ _
      · split
        · exact close_Ok2 hO _
        · split
          · exact free_Ok2 hO _
          · exact hO
theorem op_len (size : Int) (L : List Rw) (k leb n : Int) : (opR size L k leb n).2.length = L.length := by
  unfold opR
  repeat' split
  all_goals first | rfl | (unfold takeR; split <;> (try split) <;> (try split) <;> simp) | (unfold useR; split <;> (try dsimp only) <;> (try split) <;> (try split) <;> (try split) <;> (try split) <;> simp) | (unfold killR; split <;> (try dsimp only) <;> (try split) <;> (try split) <;> (try split) <;> simp) | (unfold closeR; split <;> (try dsimp only) <;> (try split) <;> simp) | (unfold freeR; split <;> (try dsimp only) <;> (try split) <;> simp)
section
variable {W : World} {b q b2 q2 : Nat} {size : Int} {L : List Rw}

set_option maxRecDepth 100000 in
set_option maxHeartbeats 1000000 in
theorem one_bn (S : Bk 71 36 W b q size L) (hO : Ok size L) (k leb n : Int) :
    Calls Tryz.prog 22 #[.pointer (some ⟨b, 0, none⟩), .pointer none, .agg #[.int .i64 k, .int .i64 leb, .int .i64 n]] W fun e w' => (∃ t, e = .returned (.bool t)) ∧ Bk 71 36 w' b q size (opR size L k leb n).2 ∧ W.grownBy w' (some q) := by
  have hba : Below W.heap.size W (W.alloc (.cells #[.int .i64 k, .int .i64 leb, .int .i64 n] 24)) := below_alloc (Below.refl _ _) _
  have HBa := Aside0.mk hba
  have hX := blk_new W (.cells #[.int .i64 k, .int .i64 leb, .int .i64 n] 24)
  have d0 : (W.alloc (.cells #[.int .i64 k, .int .i64 leb, .int .i64 n] 24)).cell? ⟨W.heap.size, 0, none⟩ = some (.int .i64 k) := cell_blk hX rfl
  have d1 : (W.alloc (.cells #[.int .i64 k, .int .i64 leb, .int .i64 n] 24)).cell? ⟨W.heap.size, 1, none⟩ = some (.int .i64 leb) := cell_blk hX rfl
  have d2 : (W.alloc (.cells #[.int .i64 k, .int .i64 leb, .int .i64 n] 24)).cell? ⟨W.heap.size, 2, none⟩ = some (.int .i64 n) := cell_blk hX rfl
  have hqn : ¬ W.heap.size = q := by have := (Array.getElem?_eq_some_iff.1 S.hq).1; omega
  have HS := Aside0.mk (S.on hba)
  have HG := Aside0.mk (show W.grownBy ((W.alloc (.cells #[.int .i64 k, .int .i64 leb, .int .i64 n] 24)).drew) (some q) from gb_trans (gb_alloc (gb_refl _ _) _) (gb_drew _ _))
  have HG0 := Aside0.mk (show W.grownBy (W.alloc (.cells #[.int .i64 k, .int .i64 leb, .int .i64 n] 24)) (some q) from gb_alloc (gb_refl _ _) _)
  have HO := Aside0.mk hO
  clear hba hX S hO
  by_cases e1 : k = 1
  · subst e1
    have hE : opR size L 1 leb n = takeR L leb n := rfl
    rw [hE]
    clear hE
    obtain ⟨er, her⟩ : ∃ er, (takeR L leb n).1 = er := ⟨_, rfl⟩
    obtain ⟨L', hL'⟩ : ∃ L', (takeR L leb n).2 = L' := ⟨_, rfl⟩
    rw [hL']
    have HE := Aside0.mk (show takeR L leb n = (er, L') from Prod.ext her hL')
    clear her hL'
    go_enter Tryz.func22, Tryz.ntmps22
    go_wp2
    go_region_held3 (fun V => V.cell? ⟨W.heap.size, 1, none⟩ = some (.int .i64 leb) ∧ V.cell? ⟨W.heap.size, 2, none⟩ = some (.int .i64 n)) ((first | go_keep | assumption | exact ⟨d1, d2⟩ | exact k1 | exact k2)) ((first | (go_at_call 12; (with_reducible refine (take_p HS.out.drew leb n HE.out).mono ?_); rintro e w1 ⟨rfl, hS, hg⟩; have HS1 := Aside0.mk hS; have HG1 := Aside0.mk hg; have k1 := (show _ ∧ _ from ⟨cell_gb hg hqn ((show ((W.alloc (.cells #[.int .i64 1, .int .i64 leb, .int .i64 n] 24)).drew).cell? ⟨W.heap.size, 1, none⟩ = some (.int .i64 leb) ∧ ((W.alloc (.cells #[.int .i64 1, .int .i64 leb, .int .i64 n] 24)).drew).cell? ⟨W.heap.size, 2, none⟩ = some (.int .i64 n) from ⟨d1, d2⟩)).1, cell_gb hg hqn ((show ((W.alloc (.cells #[.int .i64 1, .int .i64 leb, .int .i64 n] 24)).drew).cell? ⟨W.heap.size, 1, none⟩ = some (.int .i64 leb) ∧ ((W.alloc (.cells #[.int .i64 1, .int .i64 leb, .int .i64 n] 24)).drew).cell? ⟨W.heap.size, 2, none⟩ = some (.int .i64 n) from ⟨d1, d2⟩)).2⟩); clear hS hg) | (go_at_call 45; (with_reducible refine (nil45 leb n _).mono ?_); rintro e w2 ⟨rfl, rfl⟩)))
    go_wp2
    go_ret
    exact ⟨⟨_, rfl⟩, HS1.out, gb_trans HG.out HG1.out⟩
  by_cases e2 : k = 2
  · subst e2
    have hE : opR size L 2 leb n = useR size L leb n := rfl
    rw [hE]
    clear hE
    obtain ⟨er, her⟩ : ∃ er, (useR size L leb n).1 = er := ⟨_, rfl⟩
    obtain ⟨L', hL'⟩ : ∃ L', (useR size L leb n).2 = L' := ⟨_, rfl⟩
    rw [hL']
    have HE := Aside0.mk (show useR size L leb n = (er, L') from Prod.ext her hL')
    clear her hL'
    go_enter Tryz.func22, Tryz.ntmps22
    go_wp2
    go_region_held3 (fun V => V.cell? ⟨W.heap.size, 1, none⟩ = some (.int .i64 leb) ∧ V.cell? ⟨W.heap.size, 2, none⟩ = some (.int .i64 n)) ((first | go_keep | assumption | exact ⟨d1, d2⟩ | exact k1 | exact k2)) ((first | (go_at_call 13; (with_reducible refine (use_p HS.out.drew HO.out leb n HE.out).mono ?_); rintro e w1 ⟨rfl, hS, hg⟩; have HS1 := Aside0.mk hS; have HG1 := Aside0.mk hg; have k1 := (show _ ∧ _ from ⟨cell_gb hg hqn ((show ((W.alloc (.cells #[.int .i64 2, .int .i64 leb, .int .i64 n] 24)).drew).cell? ⟨W.heap.size, 1, none⟩ = some (.int .i64 leb) ∧ ((W.alloc (.cells #[.int .i64 2, .int .i64 leb, .int .i64 n] 24)).drew).cell? ⟨W.heap.size, 2, none⟩ = some (.int .i64 n) from ⟨d1, d2⟩)).1, cell_gb hg hqn ((show ((W.alloc (.cells #[.int .i64 2, .int .i64 leb, .int .i64 n] 24)).drew).cell? ⟨W.heap.size, 1, none⟩ = some (.int .i64 leb) ∧ ((W.alloc (.cells #[.int .i64 2, .int .i64 leb, .int .i64 n] 24)).drew).cell? ⟨W.heap.size, 2, none⟩ = some (.int .i64 n) from ⟨d1, d2⟩)).2⟩); clear hS hg) | (go_at_call 46; (with_reducible refine (nil46 leb n _).mono ?_); rintro e w2 ⟨rfl, rfl⟩)))
    go_wp2
    go_ret
    exact ⟨⟨_, rfl⟩, HS1.out, gb_trans HG.out HG1.out⟩
  by_cases e3 : k = 3
  · subst e3
    have hE : opR size L 3 leb n = killR L leb n := rfl
    rw [hE]
    clear hE
    obtain ⟨er, her⟩ : ∃ er, (killR L leb n).1 = er := ⟨_, rfl⟩
    obtain ⟨L', hL'⟩ : ∃ L', (killR L leb n).2 = L' := ⟨_, rfl⟩
    rw [hL']
    have HE := Aside0.mk (show killR L leb n = (er, L') from Prod.ext her hL')
    clear her hL'
    go_enter Tryz.func22, Tryz.ntmps22
    go_wp2
    go_region_held3 (fun V => V.cell? ⟨W.heap.size, 1, none⟩ = some (.int .i64 leb) ∧ V.cell? ⟨W.heap.size, 2, none⟩ = some (.int .i64 n)) ((first | go_keep | assumption | exact ⟨d1, d2⟩ | exact k1 | exact k2)) ((first | (go_at_call 14; (with_reducible refine (kill_p HS.out.drew HO.out leb n HE.out).mono ?_); rintro e w1 ⟨rfl, hS, hg⟩; have HS1 := Aside0.mk hS; have HG1 := Aside0.mk hg; have k1 := (show _ ∧ _ from ⟨cell_gb hg hqn ((show ((W.alloc (.cells #[.int .i64 3, .int .i64 leb, .int .i64 n] 24)).drew).cell? ⟨W.heap.size, 1, none⟩ = some (.int .i64 leb) ∧ ((W.alloc (.cells #[.int .i64 3, .int .i64 leb, .int .i64 n] 24)).drew).cell? ⟨W.heap.size, 2, none⟩ = some (.int .i64 n) from ⟨d1, d2⟩)).1, cell_gb hg hqn ((show ((W.alloc (.cells #[.int .i64 3, .int .i64 leb, .int .i64 n] 24)).drew).cell? ⟨W.heap.size, 1, none⟩ = some (.int .i64 leb) ∧ ((W.alloc (.cells #[.int .i64 3, .int .i64 leb, .int .i64 n] 24)).drew).cell? ⟨W.heap.size, 2, none⟩ = some (.int .i64 n) from ⟨d1, d2⟩)).2⟩); clear hS hg) | (go_at_call 47; (with_reducible refine (nil47 leb n _).mono ?_); rintro e w2 ⟨rfl, rfl⟩)))
    go_wp2
    go_ret
    exact ⟨⟨_, rfl⟩, HS1.out, gb_trans HG.out HG1.out⟩
  by_cases e4 : k = 4
  · subst e4
    have hE : opR size L 4 leb n = closeR L leb := rfl
    rw [hE]
    clear hE
    obtain ⟨er, her⟩ : ∃ er, (closeR L leb).1 = er := ⟨_, rfl⟩
    obtain ⟨L', hL'⟩ : ∃ L', (closeR L leb).2 = L' := ⟨_, rfl⟩
    rw [hL']
    have HE := Aside0.mk (show closeR L leb = (er, L') from Prod.ext her hL')
    clear her hL'
    go_enter Tryz.func22, Tryz.ntmps22
    go_wp2
    go_region_held3 (fun V => V.cell? ⟨W.heap.size, 1, none⟩ = some (.int .i64 leb)) ((first | go_keep | assumption | exact d1 | exact k1 | exact k2)) ((first | (go_at_call 15; (with_reducible refine (close_p HS.out.drew leb HE.out).mono ?_); rintro e w1 ⟨rfl, hS, hg⟩; have HS1 := Aside0.mk hS; have HG1 := Aside0.mk hg; have k1 := cell_gb hg hqn ((show ((W.alloc (.cells #[.int .i64 4, .int .i64 leb, .int .i64 n] 24)).drew).cell? ⟨W.heap.size, 1, none⟩ = some (.int .i64 leb) from d1)); clear hS hg) | (go_at_call 48; (with_reducible refine (nil48 leb _).mono ?_); rintro e w2 ⟨rfl, rfl⟩)))
    go_wp2
    go_ret
    exact ⟨⟨_, rfl⟩, HS1.out, gb_trans HG.out HG1.out⟩
  by_cases e5 : k = 5
  · subst e5
    have hE : opR size L 5 leb n = freeR L leb := rfl
    rw [hE]
    clear hE
    obtain ⟨er, her⟩ : ∃ er, (freeR L leb).1 = er := ⟨_, rfl⟩
    obtain ⟨L', hL'⟩ : ∃ L', (freeR L leb).2 = L' := ⟨_, rfl⟩
    rw [hL']
    have HE := Aside0.mk (show freeR L leb = (er, L') from Prod.ext her hL')
    clear her hL'
    go_enter Tryz.func22, Tryz.ntmps22
    go_wp2
    go_region_held3 (fun V => V.cell? ⟨W.heap.size, 1, none⟩ = some (.int .i64 leb)) ((first | go_keep | assumption | exact d1 | exact k1 | exact k2)) ((first | (go_at_call 16; (with_reducible refine (free_p HS.out.drew leb HE.out).mono ?_); rintro e w1 ⟨rfl, hS, hg⟩; have HS1 := Aside0.mk hS; have HG1 := Aside0.mk hg; have k1 := cell_gb hg hqn ((show ((W.alloc (.cells #[.int .i64 5, .int .i64 leb, .int .i64 n] 24)).drew).cell? ⟨W.heap.size, 1, none⟩ = some (.int .i64 leb) from d1)); clear hS hg) | (go_at_call 49; (with_reducible refine (nil49 leb _).mono ?_); rintro e w2 ⟨rfl, rfl⟩)))
    go_wp2
    go_ret
    exact ⟨⟨_, rfl⟩, HS1.out, gb_trans HG.out HG1.out⟩
  go_enter Tryz.func22, Tryz.ntmps22
  go_wp2
  go_ret
  have hE : opR size L k leb n = (0, L) := by unfold opR; rw [if_neg e1, if_neg e2, if_neg e3, if_neg e4, if_neg e5]
  rw [hE]
  exact ⟨⟨_, rfl⟩, HS.out, HG0.out⟩
end
end Go.Proofs.YtlpnggaeepjjfaaGreatDoor.Bo

namespace Go.Proofs.YtlpnggaeepjjfaaGreatDoor.Q
open Go.RowKit Go.Proofs.YtlpnggaeepjjfaaGreatDoorW.PrintWords Go.Proofs.YtlpnggaeepjjfaaGreatDoorW.PrintLast
set_option linter.unusedVariables false
set_option linter.unusedSimpArgs false
structure S24 where
  f0 : Int
  f1 : Int
  f2 : Int
def z24 : S24 := ⟨0, 0, 0⟩
def i64K : Kd Int := Kd.int .i64
def k24 : Kd S24 := Kd.iso (Kd.pair i64K (Kd.pair i64K i64K)) (fun x : S24 => (x.f0, x.f1, x.f2))
def ocells (x : S24) : List Value := [.int .i64 x.f0, .int .i64 x.f1, .int .i64 x.f2]
theorem k24_open {w : World} {x : S24} {cs : List Value} (h : k24.K w x cs) : cs = ocells x := by
  obtain ⟨_, _, rfl, rfl, ⟨_, _, rfl, rfl, rfl⟩⟩ := h
  exact rfl
theorem k24_mk (w : World) (x : S24) : k24.K w x [.int .i64 x.f0, .int .i64 x.f1, .int .i64 x.f2] := ⟨[_], _, rfl, rfl, ⟨[_], [_], rfl, rfl, rfl⟩⟩
theorem add_none (b off n : Nat) : (⟨b, off, none⟩ : Addr).add n = ⟨b, off + n, none⟩ := by
  unfold Addr.add
  split
  · rename_i h; rw [h]; rfl
  · rfl
theorem at24 {w : World} {A : Option Addr} {xs : List S24} (h : Kd.C k24 w A xs.length xs) {k : Nat} {x : S24} (hx : xs[k]? = some x) : ∃ b off, A = some ⟨b, off, none⟩ ∧ b < w.heap.size ∧ ∀ (j : Nat) (u : Value), (ocells x)[j]? = some u → w.cell? ⟨b, off + k * 3 + j, none⟩ = some u := by
  have hlt : k < xs.length := (List.getElem?_eq_some_iff.1 hx).1
  obtain ⟨ad, c, e, _, hK, hc0⟩ := Kd.C_get h z24 (k : Int) (by omega) (by omega)
  rw [Int.toNat_natCast] at hK hc0
  have hg : xs.getD k z24 = x := by rw [List.getD_eq_getElem?_getD, hx]; rfl
  rw [hg] at hK
  obtain rfl := k24_open hK
  have hc : ∀ (j : Nat) (u : Value), (ocells x)[j]? = some u → w.cell? (ad.add (k * 3 + j)) = some u := hc0
  obtain ⟨ad', c', e', _, hK', hc0'⟩ := Kd.C_get h z24 (0 : Int) (by omega) (by omega)
  obtain rfl : ad = ad' := by rw [e] at e'; exact Option.some.inj e'
  obtain rfl := k24_open hK'
  have hc' : ∀ (j : Nat) (u : Value), (ocells (xs.getD (0 : Int).toNat z24))[j]? = some u → w.cell? (ad.add ((0 : Int).toNat * 3 + j)) = some u := hc0'
  have h0 := hc' 0 _ rfl
  obtain ⟨b, off, sp⟩ := ad
  have hsp : sp = none := by
    have h0' : w.cell? ⟨b, off, sp⟩ = some _ := h0
    cases sp with
    | none => rfl
    | some s =>
      exfalso
      unfold World.cell? at h0'
      split at h0' <;> simp at h0'
  subst hsp
  refine ⟨b, off, e, World.block_lt_of_cell? w _ h0, fun j u hj => ?_⟩
  have := hc j u hj
  rw [add_none] at this
  rw [Nat.add_assoc]
  exact this
end Go.Proofs.YtlpnggaeepjjfaaGreatDoor.Q
namespace Go.Proofs.YtlpnggaeepjjfaaGreatDoor.Bo
open Go.RowKit Go.Sort Go.Proofs.YtlpnggaeepjjfaaGreatDoorW.PrintWords Go.Proofs.YtlpnggaeepjjfaaGreatDoorW.PrintLast Go.Proofs.YtlpnggaeepjjfaaGreatDoor.Cut Go.Proofs.YtlpnggaeepjjfaaGreatDoor.Q
set_option linter.unusedVariables false
set_option linter.unusedSimpArgs false
/-- The rows after k of the calls. -/
def stepK (size : Int) (L : List Rw) (xs : List S24) : Nat → List Rw
  | 0 => L
  | k + 1 => (opR size (stepK size L xs k) (xs.getD k z24).f0 (xs.getD k z24).f1 (xs.getD k z24).f2).2
theorem step_Ok2 {size : Int} {L : List Rw} (hO : Ok2 size L) (xs : List S24) : ∀ k, Ok2 size (stepK size L xs k)
  | 0 => hO
  | k + 1 => op_Ok2 (step_Ok2 hO xs k) _ _ _
theorem step_len (size : Int) (L : List Rw) (xs : List S24) : ∀ k, (stepK size L xs k).length = L.length
  | 0 => rfl
  | k + 1 => (op_len _ _ _ _ _).trans (step_len size L xs k)
def badNew (n size : Int) : Prop := n < 1 ∨ 256 < n ∨ size < 1 ∨ 16777216 < size
instance (n size : Int) : Decidable (badNew n size) := inferInstanceAs (Decidable (_ ∨ _))
/-- What made leaves. -/
def MadePost (n size : Int) (w : World) (e : Ending) (w' : World) : Prop :=
  Below w.heap.size w w' ∧ ((badNew n size ∧ e = .returned (.pointer none)) ∨ ∃ b q L, ¬ badNew n size ∧ e = .returned (.pointer (some ⟨b, 0, none⟩)) ∧ Ok2 size L ∧ (L.length : Int) = n ∧ Bk 71 36 w' b q size L ∧ w.heap.size ≤ b ∧ w.heap.size ≤ q)
set_option maxRecDepth 100000 in
set_option maxHeartbeats 1000000 in
theorem made_calls (n size : Int) (A : Option Addr) (c : Nat) (xs : List S24) (w : World) (hr : Kd.C k24 w A xs.length xs) (hc : xs.length ≤ c) (hl : xs.length ≤ 8796093022208) :
    Calls Tryz.prog 9 #[.int .i64 n, .int .i64 size, .slice A xs.length c] w (MadePost n size w) := by
  by_cases hbad : badNew n size
  · have HE := Aside0.mk (fun W => new_err n size W hbad)
    have HBd := Aside0.mk hbad
    clear hbad hr
    go_enter Tryz.func9, Tryz.ntmps9
    go_wp2_with (go_at_call 20; (with_reducible refine (HE.out _).mono ?_); rintro e w1 ⟨rfl, rfl⟩)
    go_ret
    exact ⟨Below.refl _ _, .inl ⟨HBd.out, rfl⟩⟩
  · have HBd := Aside0.mk hbad
    unfold badNew at hbad
    obtain ⟨m, rfl⟩ : ∃ m : Nat, n = (m : Int) := ⟨n.toNat, by omega⟩
    have HE := Aside0.mk (fun W => new_ok m size W (by omega) (by omega) (by omega) (by omega))
    have HO0 := Aside0.mk (new_Ok2 (n := m) (size := size) (by omega) (by omega) (by omega) (by omega))
    have HC := Aside0.mk (show ∀ k, k < xs.length → ∃ g o, A = some ⟨g, o, none⟩ ∧ w.cell? ⟨g, o + k * 3, none⟩ = some (.int .i64 (xs.getD k z24).f0) ∧ w.cell? ⟨g, o + k * 3 + 1, none⟩ = some (.int .i64 (xs.getD k z24).f1) ∧ w.cell? ⟨g, o + k * 3 + 2, none⟩ = some (.int .i64 (xs.getD k z24).f2) from fun k hk => by
      obtain ⟨g, o, e, _, hcs⟩ := at24 hr (k := k) (x := xs.getD k z24) (by rw [List.getD_eq_getElem?_getD, List.getElem?_eq_getElem hk]; rfl)
      exact ⟨g, o, e, hcs 0 _ rfl, hcs 1 _ rfl, hcs 2 _ rfl⟩)
    obtain ⟨N, hN⟩ : ∃ N, xs.length = N := ⟨_, rfl⟩
    rw [hN] at HC hc hl ⊢
    clear hbad hr hN
    go_enter Tryz.func9, Tryz.ntmps9
    go_wp2_with (go_at_call 20; (with_reducible refine (HE.out _).mono ?_); rintro e w1 ⟨rfl, hS, hb⟩; have HS1 := Aside0.mk hS; have HB1 := Aside0.mk hb; clear hS hb)
    go_loopw [9] (fun i wr => ∃ k : Nat, k ≤ N ∧ i = .int .i64 k ∧ Aside0 (Bk 71 36 wr (w.heap.size + 1) w.heap.size size (stepK size (List.replicate m zRw) xs k)) ∧ Aside0 (Below w.heap.size w wr)) (fun i _ => N - (intOf i).toNat)
    case atStart => exact ⟨0, by omega, rfl, HS1, HB1⟩
    case round =>
      obtain ⟨k, hk, rfl, HS, HW⟩ := hrel
      by_cases hlt : k < N
      · obtain ⟨g, o, rfl, h0, h1, h2⟩ := HC.out k hlt
        have c0 := cell_at HW.out h0 (World.block_lt_of_cell? w _ h0)
        have c1 := cell_at HW.out h1 (World.block_lt_of_cell? w _ h1)
        have c2 := cell_at HW.out h2 (World.block_lt_of_cell? w _ h2)
        have HSn := Aside0.mk (stepK.eq_2 size (List.replicate m zRw) xs k)
        have HOk := Aside0.mk (step_Ok2 HO0.out xs k).ok
        obtain ⟨x, hx⟩ : ∃ x, xs.getD k z24 = x := ⟨_, rfl⟩
        rw [hx] at c0 c1 c2 HSn
        have j1 : (k : Int) < (N : Int) := by omega
        have j2 : (0 : Int) ≤ (k : Int) := by omega
        have HOn := Aside0.mk (one_bn HS.out HOk.out x.f0 x.f1 x.f2)
        clear h0 h1 h2 hx
        go_wp2_with (go_at_call 22; (with_reducible refine HOn.out.mono ?_); rintro e w2 ⟨⟨t, rfl⟩, hS, hg⟩; have HS2 := Aside0.mk hS; have HB2 := Aside0.mk (bgb HW.out hg (Nat.le_refl _)); clear hS hg)
        go_roundw
        case rel => exact ⟨k + 1, by omega, by go_num, ⟨by rw [HSn.out]; exact HS2.out⟩, HB2⟩
        case measure => simp [intOf]; omega
      · obtain rfl : k = N := by omega
        have hlen := step_len size (List.replicate m zRw) xs k
        have HP := Aside0.mk (step_Ok2 HO0.out xs k)
        rw [List.length_replicate] at hlen
        have HLn := Aside0.mk hlen
        clear hlen
        go_wp2
        go_ret
        exact ⟨HW.out, .inr ⟨_, _, _, HBd.out, rfl, HP.out, by rw [HLn.out], HS.out, Nat.le_succ _, Nat.le_refl _⟩⟩
theorem made_bad {n size : Int} (hbad : badNew n size) (A : Option Addr) (c : Nat) (xs : List S24) (w : World) (hr : Kd.C k24 w A xs.length xs) (hc : xs.length ≤ c) (hl : xs.length ≤ 8796093022208) :
    Calls Tryz.prog 9 #[.int .i64 n, .int .i64 size, .slice A xs.length c] w fun e w' => e = .returned (.pointer none) ∧ Below w.heap.size w w' := by
  refine (made_calls n size A c xs w hr hc hl).mono ?_
  rintro e w' ⟨hb, ⟨_, he⟩ | ⟨b, q, L, hno, _⟩⟩
  · exact ⟨he, hb⟩
  · exact absurd hbad hno
def MadeOk (n size : Int) (w : World) (e : Ending) (w' : World) : Prop := ∃ b q L, e = .returned (.pointer (some ⟨b, 0, none⟩)) ∧ Below w.heap.size w w' ∧ Ok2 size L ∧ (L.length : Int) = n ∧ Bk 71 36 w' b q size L ∧ w.heap.size ≤ b ∧ w.heap.size ≤ q
theorem made_ok {n size : Int} (hbad : ¬ badNew n size) (A : Option Addr) (c : Nat) (xs : List S24) (w : World) (hr : Kd.C k24 w A xs.length xs) (hc : xs.length ≤ c) (hl : xs.length ≤ 8796093022208) :
    Calls Tryz.prog 9 #[.int .i64 n, .int .i64 size, .slice A xs.length c] w (MadeOk n size w) := by
  refine (made_calls n size A c xs w hr hc hl).mono ?_
  rintro e w' ⟨hb, ⟨h, _⟩ | ⟨b, q, L, _, he, hO, hn, hS, h1, h2⟩⟩
  · exact absurd h hbad
  · exact ⟨b, q, L, he, hb, hO, hn, hS, h1, h2⟩
end Go.Proofs.YtlpnggaeepjjfaaGreatDoor.Bo

namespace Go.Proofs.YtlpnggaeepjjfaaGreatDoor.Bo
open Go.RowKit Go.Sort Go.Proofs.YtlpnggaeepjjfaaGreatDoorW.PrintWords Go.Proofs.YtlpnggaeepjjfaaGreatDoorW.PrintLast Go.Proofs.YtlpnggaeepjjfaaGreatDoor.Cut
set_option linter.unusedVariables false
set_option linter.unusedSimpArgs false
set_option maxRecDepth 100000 in
set_option maxHeartbeats 2000000 in
theorem looks_of (p1 p2 : Option Addr) (leb use : Int) (w : World) (er u a l : Int) (c : Bool) (lf lo lo2 lv : List Int) (t1 t2 t3 : Int) (T : ByteArray)
    (h18 : ∀ W, Below w.heap.size w W → Calls Tryz.prog 18 #[.pointer p1, .int .i64 leb] W (BlockPost W (er, ⟨u, a, l, c⟩))) (h50 : ∀ W, Below w.heap.size w W → Calls Tryz.prog 50 #[.pointer p2, .int .i64 leb] W (BlockPost W (er, ⟨u, a, l, c⟩))) (h26 : ∀ W, Below w.heap.size w W → Calls Tryz.prog 26 #[.pointer p1] W (LeastPost W lf)) (h51 : ∀ W, Below w.heap.size w W → Calls Tryz.prog 51 #[.pointer p2] W (LeastPost W lf)) (h25 : ∀ W, Below w.heap.size w W → Calls Tryz.prog 25 #[.pointer p1] W (TotPost W (t1, t2, t3))) (h52 : ∀ W, Below w.heap.size w W → Calls Tryz.prog 52 #[.pointer p2] W (TotPost W (t1, t2, t3))) (h53 : ∀ W, Below w.heap.size w W → Calls Tryz.prog 53 #[.pointer p2, .int .i64 use] W (RowPost W lo2)) (h27 : ∀ W, Below w.heap.size w W → Calls Tryz.prog 27 #[.pointer p1] W (RowPost W lf)) (h54 : ∀ W, Below w.heap.size w W → Calls Tryz.prog 54 #[.pointer p2] W (RowPost W lf)) (h28 : ∀ W, Below w.heap.size w W → Calls Tryz.prog 28 #[.pointer p1, .int .i64 use] W (RowPost W lo)) (h17 : ∀ W, Below w.heap.size w W → Calls Tryz.prog 17 #[.pointer p1, .int .i64 use] W (RowPost W lv)) (h55 : ∀ W, Below w.heap.size w W → Calls Tryz.prog 55 #[.pointer p2, .int .i64 use] W (RowPost W lv)) (h11 : ∀ W, Below w.heap.size w W → Calls Tryz.prog 11 #[.pointer p1] W (fun e w' => e = .returned (.string T) ∧ Below W.heap.size W w')) (h56 : ∀ W, Below w.heap.size w W → Calls Tryz.prog 56 #[.pointer p2] W (fun e w' => e = .returned (.string T) ∧ Below W.heap.size W w'))
    (hin : ¬ (use < 1 ∨ 3 < use) → lo = lo2) (hout : use < 1 ∨ 3 < use → lo = []) (hln : lf.length < 4611686018427387904 ∧ lo.length < 4611686018427387904 ∧ lv.length < 4611686018427387904) :
    Calls Tryz.prog 23 #[.pointer p1, .pointer p2, .int .i64 leb, .int .i64 use] w fun e w' => e = .returned (.bool true) ∧ Below w.heap.size w w' := by
  have H18 := Aside0.mk h18
  have H50 := Aside0.mk h50
  have H26 := Aside0.mk h26
  have H51 := Aside0.mk h51
  have H25 := Aside0.mk h25
  have H52 := Aside0.mk h52
  have H53 := Aside0.mk h53
  have H27 := Aside0.mk h27
  have H54 := Aside0.mk h54
  have H28 := Aside0.mk h28
  have H17 := Aside0.mk h17
  have H55 := Aside0.mk h55
  have H11 := Aside0.mk h11
  have H56 := Aside0.mk h56
  have HLn := Aside0.mk hln
  have HIn := Aside0.mk hin
  have HOut := Aside0.mk hout
  obtain ⟨⟨ln, li⟩, hlf⟩ : ∃ p, leastR lf = p := ⟨_, rfl⟩
  have HLf := Aside0.mk hlf
  clear h18 h50 h26 h51 h25 h52 h53 h27 h54 h28 h17 h55 h11 h56 hin hout hln hlf
  go_enter Tryz.func23, Tryz.ntmps23
  go_upto_region 10 with (first | (go_at_call 18; (with_reducible refine (H18.out _ (Below.refl _ _)).mono ?_); rintro e w1 ⟨rfl, hb⟩; have HB1 := Aside0.mk (below_alloc hb (.cells #[.int .i64 u, .int .i64 a, .int .i64 l, .bool c] 36)); have HK1 := Aside0.mk (blk_new w1 (.cells #[.int .i64 u, .int .i64 a, .int .i64 l, .bool c] 36)); clear hb) | (go_at_call 50; (with_reducible refine (H50.out _ HB1.out).mono ?_); rintro e w2 ⟨rfl, hb⟩; have HB2 := Aside0.mk (below_alloc (btr HB1.out hb) (.cells #[.int .i64 u, .int .i64 a, .int .i64 l, .bool c] 89)); have hk1 := blk_alloc (blk_below HK1.out hb) (.cells #[.int .i64 u, .int .i64 a, .int .i64 l, .bool c] 89); have hk2 := blk_new w2 (.cells #[.int .i64 u, .int .i64 a, .int .i64 l, .bool c] 89); have x0 := cell_blk (i := 0) hk1 rfl; have x1 := cell_blk (i := 1) hk1 rfl; have x2 := cell_blk (i := 2) hk1 rfl; have x3 := cell_blk (i := 3) hk1 rfl; have y0 := cell_blk (i := 0) hk2 rfl; have y1 := cell_blk (i := 1) hk2 rfl; have y2 := cell_blk (i := 2) hk2 rfl; have y3 := cell_blk (i := 3) hk2 rfl; clear hb hk1 hk2) | (go_at_call 26; (with_reducible refine (H26.out _ HB2.out).mono ?_); rintro e w3 ⟨rfl, hb⟩; have HB3 := Aside0.mk (btr HB2.out hb); clear x0 x1 x2 x3 y0 y1 y2 y3; rw [HLf.out]; clear hb) | (go_at_call 51; (with_reducible refine (H51.out _ HB3.out).mono ?_); rintro e w4 ⟨rfl, hb⟩; have HB4 := Aside0.mk (btr HB3.out hb); rw [HLf.out]; clear hb) | (go_at_call 25; (with_reducible refine (H25.out _ HB4.out).mono ?_); rintro e w5 ⟨rfl, hb⟩; have HB5 := Aside0.mk (btr HB4.out hb); clear hb) | (go_at_call 52; (with_reducible refine (H52.out _ HB5.out).mono ?_); rintro e w6 ⟨rfl, hb⟩; have HB6 := Aside0.mk (btr HB5.out hb); clear hb) | (go_at_call 53; (with_reducible refine (H53.out _ HB6.out).mono ?_); rintro e w7 ⟨vo, rfl, hr, hb⟩; have HB7 := Aside0.mk (btr HB6.out hb); have HRo := Aside0.mk hr; clear hr; clear hb))
  by_cases e1 : use < 1
  · obtain rfl := HOut.out (.inl e1)
    go_wp2_with (first | (go_at_call 27; (with_reducible refine (H27.out _ HB7.out).mono ?_); rintro e w8 ⟨vf, rfl, hr, hb⟩; have HB8 := Aside0.mk (btr HB7.out hb); have HRf := Aside0.mk hr; have HRo8 := Aside0.mk (Kd.R_below ((show Kd.R (Kd.int .i64) 3 w7 w7.heap.size (fun _ => True) (.slice none 0 0) [] from Kd.R_nil _ _ _ _ _)) hb); clear hr; clear hb) | (go_at_call 54; (with_reducible refine (H54.out _ HB8.out).mono ?_); rintro e w9 ⟨vg, rfl, hr, hb⟩; have HB9 := Aside0.mk (btr HB8.out hb); have HRg := Aside0.mk hr; have HRf9 := Aside0.mk (Kd.R_below HRf.out hb); have HRo9 := Aside0.mk (Kd.R_below HRo8.out hb); clear hr; clear hb) | (go_at_call 29; (with_reducible refine (ints_calls vf vg lf HLn.out.1 _ _ _ HRf9.out HRg.out).mono ?_); rintro e w10 ⟨rfl, hb⟩; have HB10 := Aside0.mk (btr HB9.out hb); have HRo10 := Aside0.mk (Kd.R_below HRo9.out hb); clear hb) | (go_at_call 28; (with_reducible refine (H28.out _ HB10.out).mono ?_); rintro e w11 ⟨vp, rfl, hr, hb⟩; have HB11 := Aside0.mk (btr HB10.out hb); have HRp := Aside0.mk hr; have HRo11 := Aside0.mk (Kd.R_below HRo10.out hb); clear hr; clear hb) | (go_at_call 29; (with_reducible refine (ints_calls vp (.slice none 0 0) [] HLn.out.2.1 _ _ _ HRp.out HRo11.out).mono ?_); rintro e w12 ⟨rfl, hb⟩; have HB12 := Aside0.mk (btr HB11.out hb); clear hb) | (go_at_call 17; (with_reducible refine (H17.out _ HB12.out).mono ?_); rintro e w13 ⟨vv, rfl, hr, hb⟩; have HB13 := Aside0.mk (btr HB12.out hb); have HRv := Aside0.mk hr; clear hr; clear hb) | (go_at_call 55; (with_reducible refine (H55.out _ HB13.out).mono ?_); rintro e w14 ⟨vx, rfl, hr, hb⟩; have HB14 := Aside0.mk (btr HB13.out hb); have HRx := Aside0.mk hr; have HRv14 := Aside0.mk (Kd.R_below HRv.out hb); clear hr; clear hb) | (go_at_call 29; (with_reducible refine (ints_calls vv vx lv HLn.out.2.2 _ _ _ HRv14.out HRx.out).mono ?_); rintro e w15 ⟨rfl, hb⟩; have HB15 := Aside0.mk (btr HB14.out hb); clear hb) | (go_at_call 11; (with_reducible refine (H11.out _ HB15.out).mono ?_); rintro e w16 ⟨rfl, hb⟩; have HB16 := Aside0.mk (btr HB15.out hb); clear hb) | (go_at_call 56; (with_reducible refine (H56.out _ HB16.out).mono ?_); rintro e w17 ⟨rfl, hb⟩; have HB17 := Aside0.mk (btr HB16.out hb); clear hb))
    go_ret
    exact ⟨by simp, HB17.out⟩
  · by_cases e2 : 3 < use
    · obtain rfl := HOut.out (.inr e2)
      go_wp2_with (first | (go_at_call 27; (with_reducible refine (H27.out _ HB7.out).mono ?_); rintro e w8 ⟨vf, rfl, hr, hb⟩; have HB8 := Aside0.mk (btr HB7.out hb); have HRf := Aside0.mk hr; have HRo8 := Aside0.mk (Kd.R_below ((show Kd.R (Kd.int .i64) 3 w7 w7.heap.size (fun _ => True) (.slice none 0 0) [] from Kd.R_nil _ _ _ _ _)) hb); clear hr; clear hb) | (go_at_call 54; (with_reducible refine (H54.out _ HB8.out).mono ?_); rintro e w9 ⟨vg, rfl, hr, hb⟩; have HB9 := Aside0.mk (btr HB8.out hb); have HRg := Aside0.mk hr; have HRf9 := Aside0.mk (Kd.R_below HRf.out hb); have HRo9 := Aside0.mk (Kd.R_below HRo8.out hb); clear hr; clear hb) | (go_at_call 29; (with_reducible refine (ints_calls vf vg lf HLn.out.1 _ _ _ HRf9.out HRg.out).mono ?_); rintro e w10 ⟨rfl, hb⟩; have HB10 := Aside0.mk (btr HB9.out hb); have HRo10 := Aside0.mk (Kd.R_below HRo9.out hb); clear hb) | (go_at_call 28; (with_reducible refine (H28.out _ HB10.out).mono ?_); rintro e w11 ⟨vp, rfl, hr, hb⟩; have HB11 := Aside0.mk (btr HB10.out hb); have HRp := Aside0.mk hr; have HRo11 := Aside0.mk (Kd.R_below HRo10.out hb); clear hr; clear hb) | (go_at_call 29; (with_reducible refine (ints_calls vp (.slice none 0 0) [] HLn.out.2.1 _ _ _ HRp.out HRo11.out).mono ?_); rintro e w12 ⟨rfl, hb⟩; have HB12 := Aside0.mk (btr HB11.out hb); clear hb) | (go_at_call 17; (with_reducible refine (H17.out _ HB12.out).mono ?_); rintro e w13 ⟨vv, rfl, hr, hb⟩; have HB13 := Aside0.mk (btr HB12.out hb); have HRv := Aside0.mk hr; clear hr; clear hb) | (go_at_call 55; (with_reducible refine (H55.out _ HB13.out).mono ?_); rintro e w14 ⟨vx, rfl, hr, hb⟩; have HB14 := Aside0.mk (btr HB13.out hb); have HRx := Aside0.mk hr; have HRv14 := Aside0.mk (Kd.R_below HRv.out hb); clear hr; clear hb) | (go_at_call 29; (with_reducible refine (ints_calls vv vx lv HLn.out.2.2 _ _ _ HRv14.out HRx.out).mono ?_); rintro e w15 ⟨rfl, hb⟩; have HB15 := Aside0.mk (btr HB14.out hb); clear hb) | (go_at_call 11; (with_reducible refine (H11.out _ HB15.out).mono ?_); rintro e w16 ⟨rfl, hb⟩; have HB16 := Aside0.mk (btr HB15.out hb); clear hb) | (go_at_call 56; (with_reducible refine (H56.out _ HB16.out).mono ?_); rintro e w17 ⟨rfl, hb⟩; have HB17 := Aside0.mk (btr HB16.out hb); clear hb))
      go_ret
      exact ⟨by simp, HB17.out⟩
    · obtain rfl := HIn.out (fun h => h.elim e1 e2)
      go_wp2_with (first | (go_at_call 27; (with_reducible refine (H27.out _ HB7.out).mono ?_); rintro e w8 ⟨vf, rfl, hr, hb⟩; have HB8 := Aside0.mk (btr HB7.out hb); have HRf := Aside0.mk hr; have HRo8 := Aside0.mk (Kd.R_below (HRo.out) hb); clear hr; clear hb) | (go_at_call 54; (with_reducible refine (H54.out _ HB8.out).mono ?_); rintro e w9 ⟨vg, rfl, hr, hb⟩; have HB9 := Aside0.mk (btr HB8.out hb); have HRg := Aside0.mk hr; have HRf9 := Aside0.mk (Kd.R_below HRf.out hb); have HRo9 := Aside0.mk (Kd.R_below HRo8.out hb); clear hr; clear hb) | (go_at_call 29; (with_reducible refine (ints_calls vf vg lf HLn.out.1 _ _ _ HRf9.out HRg.out).mono ?_); rintro e w10 ⟨rfl, hb⟩; have HB10 := Aside0.mk (btr HB9.out hb); have HRo10 := Aside0.mk (Kd.R_below HRo9.out hb); clear hb) | (go_at_call 28; (with_reducible refine (H28.out _ HB10.out).mono ?_); rintro e w11 ⟨vp, rfl, hr, hb⟩; have HB11 := Aside0.mk (btr HB10.out hb); have HRp := Aside0.mk hr; have HRo11 := Aside0.mk (Kd.R_below HRo10.out hb); clear hr; clear hb) | (go_at_call 29; (with_reducible refine (ints_calls vp vo lo HLn.out.2.1 _ _ _ HRp.out HRo11.out).mono ?_); rintro e w12 ⟨rfl, hb⟩; have HB12 := Aside0.mk (btr HB11.out hb); clear hb) | (go_at_call 17; (with_reducible refine (H17.out _ HB12.out).mono ?_); rintro e w13 ⟨vv, rfl, hr, hb⟩; have HB13 := Aside0.mk (btr HB12.out hb); have HRv := Aside0.mk hr; clear hr; clear hb) | (go_at_call 55; (with_reducible refine (H55.out _ HB13.out).mono ?_); rintro e w14 ⟨vx, rfl, hr, hb⟩; have HB14 := Aside0.mk (btr HB13.out hb); have HRx := Aside0.mk hr; have HRv14 := Aside0.mk (Kd.R_below HRv.out hb); clear hr; clear hb) | (go_at_call 29; (with_reducible refine (ints_calls vv vx lv HLn.out.2.2 _ _ _ HRv14.out HRx.out).mono ?_); rintro e w15 ⟨rfl, hb⟩; have HB15 := Aside0.mk (btr HB14.out hb); clear hb) | (go_at_call 11; (with_reducible refine (H11.out _ HB15.out).mono ?_); rintro e w16 ⟨rfl, hb⟩; have HB16 := Aside0.mk (btr HB15.out hb); clear hb) | (go_at_call 56; (with_reducible refine (H56.out _ HB16.out).mono ?_); rintro e w17 ⟨rfl, hb⟩; have HB17 := Aside0.mk (btr HB16.out hb); clear hb))
      go_ret
      exact ⟨by simp, HB17.out⟩
theorem looks_br {b q b2 q2 : Nat} {size : Int} {L : List Rw} {w : World} (S : Bk 71 36 w b q size L) (R : Bk 88 89 w b2 q2 size L) (hO : Ok size L) (hL : Lw w) (leb use : Int) :
    Calls Tryz.prog 23 #[.pointer (some ⟨b, 0, none⟩), .pointer (some ⟨b2, 0, none⟩), .int .i64 leb, .int .i64 use] w fun e w' => e = .returned (.bool true) ∧ Below w.heap.size w w' := by
  have hl := hO.len
  have hf := ofK_len 0 L L.length
  have ho : ofR use L = ofK use L L.length ∨ ofR use L = [] := by unfold ofR; split; exact .inr rfl; exact .inl rfl
  have ho2 := ofK_len use L L.length
  have hv : (toI (vicR use L)).length ≤ 256 := by
    rw [toI_length]
    unfold vicR sortN
    rw [List.length_mergeSort]
    exact Nat.le_trans (List.length_filter_le _ _) (Nat.le_trans (onR_len use L) hl)
  refine looks_of (some ⟨b, 0, none⟩) (some ⟨b2, 0, none⟩) leb use w (blockR L leb).1 (blockR L leb).2.use (blockR L leb).2.used (blockR L leb).2.live (blockR L leb).2.closed (ofK 0 L L.length) (ofR use L) (ofK use L L.length) (toI (vicR use L)) (totK L L.length).1 (totK L L.length).2.1 (totK L L.length).2.2 (textR size L)
    (fun W hb => block_calls (S.on hb) leb) (fun W hb => rblock_calls (R.on hb) leb) (fun W hb => least_of _ W _ (frees_calls (S.on hb) hl)) (fun W hb => rleast_of _ W _ (rfrees_calls (R.on hb) hl))
    (fun W hb => totals_calls (S.on hb) hO) (fun W hb => rtotals_calls (R.on hb) hO) (fun W hb => rof_calls (R.on hb) hl use) (fun W hb => frees_calls (S.on hb) hl) (fun W hb => rfrees_calls (R.on hb) hl) (fun W hb => of_calls (S.on hb) hl use) (fun W hb => victims_calls (S.on hb) hO use)
    (fun W hb => by rw [vic_eq hO use]; exact rvictims_calls (R.on hb) hO use) (fun W hb => text_calls (S.on hb) hO (hL.on hb)) (fun W hb => rtext_calls num_calls (R.on hb) hO) ?_ ?_ ⟨by omega, ?_, by omega⟩
  · intro h
    unfold ofR
    rw [if_neg (by omega)]
  · intro h
    rw [← onR_toI, onR_out hO use h]
    rfl
  · rcases ho with e | e <;> rw [e]
    · omega
    · decide
end Go.Proofs.YtlpnggaeepjjfaaGreatDoor.Bo

namespace Go.Proofs.YtlpnggaeepjjfaaGreatDoor.Bo
open Go.RowKit Go.Sort Go.Proofs.YtlpnggaeepjjfaaGreatDoorW.PrintWords Go.Proofs.YtlpnggaeepjjfaaGreatDoorW.PrintLast Go.Proofs.YtlpnggaeepjjfaaGreatDoor.Cut
set_option linter.unusedVariables false
set_option linter.unusedSimpArgs false
section
variable {text : ByteArray} {w : World} {size : Int} {L : List Rw}
theorem parse_none (h : parseP text = none) (hs : text.size < 4294967281) (w : World) (hL : Lw w) : Calls Tryz.prog 19 #[.string text] w fun e w' => e = .returned (.tuple #[.pointer none, .int .i64 22]) ∧ Below w.heap.size w w' := by
  refine (parse_calls text w hs hL).mono ?_
  rintro e w' ⟨hb, ⟨_, he⟩ | ⟨size, L, b, q, hr, _⟩⟩
  · exact ⟨he, hb⟩
  · rw [h] at hr; cases hr
theorem rparse_none (h : parseP text = none) (hs : text.size < 4294967281) (w : World) : Calls Tryz.prog 24 #[.string text] w fun e w' => e = .returned (.tuple #[.pointer none, .int .i64 22]) ∧ Below w.heap.size w w' := by
  refine (rparse_calls text w hs).mono ?_
  rintro e w' ⟨hb, ⟨_, he⟩ | ⟨size, L, b, q, hr, _⟩⟩
  · exact ⟨he, hb⟩
  · rw [← parse_eq, h] at hr; cases hr
def ReadPost (tb tr : TypeId) (size : Int) (L : List Rw) (w : World) (e : Ending) (w' : World) : Prop := ∃ b q, e = .returned (.tuple #[.pointer (some ⟨b, 0, none⟩), .int .i64 0]) ∧ Bk tb tr w' b q size L ∧ Below w.heap.size w w' ∧ w.heap.size ≤ b ∧ w.heap.size ≤ q
theorem parse_some (h : parseP text = some (size, L)) (hs : text.size < 4294967281) (w : World) (hL : Lw w) : Calls Tryz.prog 19 #[.string text] w (ReadPost 71 36 size L w) := by
  refine (parse_calls text w hs hL).mono ?_
  rintro e w' ⟨hb, ⟨hr, _⟩ | ⟨size', L', b, q, hr, _, he, hS, h1, h2⟩⟩
  · rw [h] at hr; cases hr
  · rw [h] at hr
    cases hr
    exact ⟨b, q, he, hS, hb, h1, h2⟩
theorem rparse_some (h : parseP text = some (size, L)) (hs : text.size < 4294967281) (w : World) : Calls Tryz.prog 24 #[.string text] w (ReadPost 88 89 size L w) := by
  refine (rparse_calls text w hs).mono ?_
  rintro e w' ⟨hb, ⟨hr, _⟩ | ⟨size', L', b, q, hr, _, he, hS, h1, h2⟩⟩
  · rw [← parse_eq, h] at hr; cases hr
  · rw [← parse_eq, h] at hr
    cases hr
    exact ⟨b, q, he, hS, hb, h1, h2⟩
end
set_option maxRecDepth 100000 in
set_option maxHeartbeats 1000000 in
theorem parses_walk (text : ByteArray) (w : World) (hL : Lw w) (hs : text.size < 4294967281) : Calls Tryz.prog 7 #[.string text] w fun e w' => e = .returned (.bool true) ∧ Below w.heap.size w w' := by
  have HL := Aside0.mk hL
  cases hp : parseP text with
  | none =>
    have HP := Aside0.mk (parse_none hp hs)
    have HR := Aside0.mk (rparse_none hp hs)
    clear hL hp hs
    go_enter Tryz.func7, Tryz.ntmps7
    go_wp2_with (first | (go_at_call 19; (with_reducible refine (HP.out _ HL.out).mono ?_); rintro e w1 ⟨rfl, hb⟩; have HB1 := Aside0.mk hb; clear hb) | (go_at_call 24; (with_reducible refine (HR.out _).mono ?_); rintro e w2 ⟨rfl, hb⟩; have HB2 := Aside0.mk (btr HB1.out hb); clear hb) | (go_at_call 10; go_loud (with_reducible refine (alive_calls _ (HL.out.on HB2.out)).mono ?_); rintro e w9 ⟨rfl, hb9⟩; have HB9 := Aside0.mk hb9; clear hb9))
    go_ret
    exact ⟨rfl, btr HB2.out HB9.out⟩
  | some p =>
    obtain ⟨size, L⟩ := p
    obtain ⟨hO, ht⟩ := parseP_sound hp
    have HO := Aside0.mk hO
    have HP := Aside0.mk (parse_some hp hs)
    have HR := Aside0.mk (rparse_some hp hs)
    have HT := Aside0.mk ht
    clear hL hp hs hO ht
    go_enter Tryz.func7, Tryz.ntmps7
    go_wp2_with (first | (go_at_call 19; (with_reducible refine (HP.out _ HL.out).mono ?_); rintro e w1 ⟨b, q, rfl, hS, hb, -, -⟩; have HB1 := Aside0.mk hb; have HS1 := Aside0.mk hS; clear hb hS) | (go_at_call 24; (with_reducible refine (HR.out _).mono ?_); rintro e w2 ⟨b2, q2, rfl, hS, hb, -, -⟩; have HB2 := Aside0.mk (btr HB1.out hb); have HS2 := Aside0.mk (HS1.out.on hb); have HR2 := Aside0.mk hS; clear hb hS) | (go_at_call 23; (with_reducible refine (looks_br HS2.out HR2.out HO.out.ok (HL.out.on HB2.out) _ _).mono ?_); rintro e w3 ⟨rfl, hb⟩; have HB3 := Aside0.mk (btr HB2.out hb); have HS3 := Aside0.mk (HS2.out.on hb); clear hb) | (go_at_call 11; (with_reducible refine (text_calls HS3.out HO.out.ok (HL.out.on HB3.out)).mono ?_); rintro e w4 ⟨rfl, hb⟩; have HB4 := Aside0.mk (btr HB3.out hb); clear hb; rw [HT.out]) | (go_at_call 10; go_loud (with_reducible refine (alive_calls _ (HL.out.on HB4.out)).mono ?_); rintro e w9 ⟨rfl, hb9⟩; have HB9 := Aside0.mk hb9; clear hb9))
    go_ret
    exact ⟨by simp, btr HB4.out HB9.out⟩
end Go.Proofs.YtlpnggaeepjjfaaGreatDoor.Bo
namespace Go.Proofs.YtlpnggaeepjjfaaGreatDoor.Q
open Go.RowKit Go.Proofs.YtlpnggaeepjjfaaGreatDoorW.PrintWords Go.Proofs.YtlpnggaeepjjfaaGreatDoor.Bo
set_option linter.unusedVariables false
def pumicelaw14_PropsParses.f (a0 : ByteArray) : Option Bool := if a0.size < 4294967281 then some true else none
theorem pumicelaw14_PropsParses.calls (a0 : ByteArray) (r : Bool) (w : World) (hL : Lw w) (h : pumicelaw14_PropsParses.f a0 = some r) :
    Calls Tryz.prog 7 #[.string a0] w fun e w' => e = .returned (.bool r) ∧ Below w.heap.size w w' := by
  unfold pumicelaw14_PropsParses.f at h
  split at h
  · rename_i hl
    cases h
    exact parses_walk a0 w hL hl
  · cases h
end Go.Proofs.YtlpnggaeepjjfaaGreatDoor.Q

namespace Go.Proofs.YtlpnggaeepjjfaaGreatDoor.Bo
open Go.RowKit Go.Sort Go.Proofs.YtlpnggaeepjjfaaGreatDoorW.PrintWords Go.Proofs.YtlpnggaeepjjfaaGreatDoorW.PrintLast Go.Proofs.YtlpnggaeepjjfaaGreatDoor.Cut Go.Proofs.YtlpnggaeepjjfaaGreatDoor.Q
set_option linter.unusedVariables false
set_option linter.unusedSimpArgs false
theorem eqA36 (d : Nat) (w : World) (x0 y0 : Int) (x1 y1 : Int) (x2 y2 : Int) (x3 y3 : Bool) :
    (Op.equalIn (d + 2) 36 (.agg #[.int .i64 x0, .int .i64 x1, .int .i64 x2, .bool x3]) (.agg #[.int .i64 y0, .int .i64 y1, .int .i64 y2, .bool y3])).run Tryz.prog w = .ok (x0 == y0 && (x1 == y1 && (x2 == y2 && (x3 == y3)))) w := by
  refine eqA_of Tryz.underlying36 (by kernel_rfl) ?_
  refine eqf_cons (by rfl) (by go_simp; rfl) (by go_simp; rfl) (by go_simp) ?_
  refine eqf_cons (by rfl) (by go_simp; rfl) (by go_simp; rfl) (by go_simp) ?_
  refine eqf_cons (by rfl) (by go_simp; rfl) (by go_simp; rfl) (by go_simp) ?_
  exact eqf_last (by rfl) (by go_simp; rfl) (by go_simp; rfl) (by go_simp)
attribute [local go_sem] eqA36
theorem text_small {size : Int} {L : List Rw} (hO : Ok size L) : (textR size L).size < 4294967281 := by
  have h := text_len hO L.length (Nat.le_refl _)
  have h2 := hO.len
  show (textK size L L.length).toArray.size < _
  rw [List.size_toArray]
  omega
set_option maxRecDepth 100000 in
set_option maxHeartbeats 2000000 in
theorem back_walk (a0 a1 : Int) (A2 : Option Addr) (c2 : Nat) (l2 : List S24) (text : ByteArray) (w : World) (hL : Lw w) (hr2 : Kd.C k24 w A2 l2.length l2) (hc2 : l2.length ≤ c2) (hl : l2.length ≤ 8796093022208) (hs : text.size < 4294967281) :
    Calls Tryz.prog 5 #[.int .i64 a0, .int .i64 a1, .slice A2 l2.length c2, .string text] w fun e w' => e = .returned (.bool true) ∧ Below w.heap.size w w' := by
  have HL := Aside0.mk hL
  by_cases hbad : badNew a0 a1
  · have HM := Aside0.mk (made_bad hbad A2 c2 l2 _ hr2 hc2 hl)
    clear hL hr2 hbad
    go_enter Tryz.func5, Tryz.ntmps5
    go_wp2_with (first | (go_at_call 9; (with_reducible refine HM.out.mono ?_); rintro e w1 ⟨rfl, hb⟩; have HB1 := Aside0.mk hb; clear hb) | (go_at_call 10; (with_reducible refine (alive_calls _ (HL.out.on HB1.out)).mono ?_); rintro e w9 ⟨rfl, hb9⟩; have HB9 := Aside0.mk (btr HB1.out hb9); clear hb9))
    go_ret
    exact ⟨rfl, HB9.out⟩
  · have HM := Aside0.mk (made_ok hbad A2 c2 l2 _ hr2 hc2 hl)
    have HSz := Aside0.mk hs
    clear hL hr2 hbad hs
    go_enter Tryz.func5, Tryz.ntmps5
    go_upto_region 2 with (go_at_call 9; (with_reducible refine HM.out.mono ?_); rintro e w1 ⟨b, q, L, rfl, hb, hO, hn, hS, h1, h2⟩; have HB1 := Aside0.mk hb; have HO := Aside0.mk hO; have HS1 := Aside0.mk hS; have HNn := Aside0.mk hn; clear hb hO hS h1 h2)
    obtain ⟨M, hM⟩ : ∃ M, L.length = M := ⟨_, rfl⟩
    have h256 : M ≤ 256 := by rw [← hM]; exact HO.out.ok.len
    rw [hM] at hn
    subst hn
    have HPa := Aside0.mk (parse_some (parseP_text HO.out) (text_small HO.out.ok))
    have HMM := Aside0.mk hM
    clear hM
    obtain ⟨T, hT⟩ : ∃ T, textR a1 L = T := ⟨_, rfl⟩
    have HT1 := Aside0.mk (show ∀ (W : World) (b q : Nat), Bk 71 36 W b q a1 L → Lw W → Calls Tryz.prog 11 #[.pointer (some ⟨b, 0, none⟩)] W fun e w' => e = .returned (.string T) ∧ Below W.heap.size W w' from fun W b q S h => by rw [← hT]; exact text_calls S HO.out.ok h)
    rw [hT] at HPa
    clear hT
    go_upto_region 7 with (first | (go_at_call 11; (with_reducible refine (HT1.out _ _ _ HS1.out (HL.out.on HB1.out)).mono ?_); rintro e w2 ⟨rfl, hb⟩; have HB2 := Aside0.mk (btr HB1.out hb); have HS2 := Aside0.mk (HS1.out.on hb); clear hb) | (go_at_call 19; (with_reducible refine (HPa.out _ (HL.out.on HB2.out)).mono ?_); rintro e w3 ⟨b2, q2, rfl, hS, hb, -, -⟩; have HB3 := Aside0.mk (btr HB2.out hb); have HS3 := Aside0.mk (HS2.out.on hb); have HC3 := Aside0.mk hS; clear hb hS) | (go_at_call 11; (with_reducible refine (HT1.out _ _ _ HC3.out (HL.out.on HB3.out)).mono ?_); rintro e w4 ⟨rfl, hb⟩; have HB4 := Aside0.mk (btr HB3.out hb); have HS4 := Aside0.mk (HS3.out.on hb); have HC4 := Aside0.mk (HC3.out.on hb); clear hb) | (go_at_call 11; (with_reducible refine (HT1.out _ _ _ HS4.out (HL.out.on HB4.out)).mono ?_); rintro e w5 ⟨rfl, hb⟩; have HB5 := Aside0.mk (btr HB4.out hb); have HS5 := Aside0.mk (HS4.out.on hb); have HC5 := Aside0.mk (HC4.out.on hb); clear hb))
    go_wp2
    go_loopw [12] (fun i wr => ∃ k : Nat, k ≤ M ∧ i = .int .i64 k ∧ Aside0 (Below w5.heap.size w5 wr)) (fun i _ => M - (intOf i).toNat)
    case atStart => exact ⟨0, by omega, rfl, ⟨Below.refl _ _⟩⟩
    case round =>
      obtain ⟨k, hk, rfl, HW⟩ := hrel
      by_cases hlt : k < M
      · have j1 : (k : Int) < (M : Int) := by omega
        obtain ⟨⟨er, ⟨u, a, l, c⟩⟩, hbl⟩ : ∃ r, blockR L (k : Int) = r := ⟨_, rfl⟩
        have HBl := Aside0.mk (show ∀ (W : World) (b q : Nat), Bk 71 36 W b q a1 L → Calls Tryz.prog 18 #[.pointer (some ⟨b, 0, none⟩), .int .i64 (k : Int)] W (BlockPost W (er, ⟨u, a, l, c⟩)) from fun W b q S => by have h := block_calls S (k : Int); rw [hbl] at h; exact h)
        clear hbl
        go_wp2_with (first | (go_at_call 18; (with_reducible refine (HBl.out _ _ _ (HS5.out.on HW.out)).mono ?_); rintro e w6 ⟨rfl, hb⟩; have HW6 := Aside0.mk (below_alloc (btr HW.out hb) (.cells #[.int .i64 u, .int .i64 a, .int .i64 l, .bool c] 36)); have HK6 := Aside0.mk (blk_new w6 (.cells #[.int .i64 u, .int .i64 a, .int .i64 l, .bool c] 36)); clear hb) | (go_at_call 18; (with_reducible refine (HBl.out _ _ _ (HC5.out.on HW6.out)).mono ?_); rintro e w7 ⟨rfl, hb⟩; have HW7 := Aside0.mk (below_alloc (btr HW6.out hb) (.cells #[.int .i64 u, .int .i64 a, .int .i64 l, .bool c] 36)); have hk1 := blk_alloc (blk_below HK6.out hb) (.cells #[.int .i64 u, .int .i64 a, .int .i64 l, .bool c] 36); have hk2 := blk_new w7 (.cells #[.int .i64 u, .int .i64 a, .int .i64 l, .bool c] 36); have x0 := cell_blk (i := 0) hk1 rfl; have x1 := cell_blk (i := 1) hk1 rfl; have x2 := cell_blk (i := 2) hk1 rfl; have x3 := cell_blk (i := 3) hk1 rfl; have y0 := cell_blk (i := 0) hk2 rfl; have y1 := cell_blk (i := 1) hk2 rfl; have y2 := cell_blk (i := 2) hk2 rfl; have y3 := cell_blk (i := 3) hk2 rfl; clear hb))
        go_roundw
        case rel => exact ⟨k + 1, by omega, by go_num, HW7⟩
        case measure => simp [intOf]; omega
      · obtain rfl : k = M := by omega
        have j1 : ¬ (k : Int) < (k : Int) := by omega
        cases hp : parseP text with
        | none =>
          have HPn := Aside0.mk (parse_none hp HSz.out)
          clear hp
          go_wp2_with (first | (go_at_call 19; (with_reducible refine (HPn.out _ (HL.out.on (btr HB5.out HW.out))).mono ?_); rintro e w6 ⟨rfl, hb⟩; have HB6 := Aside0.mk (btr HB5.out (btr HW.out hb)); clear hb) | (go_at_call 10; (with_reducible refine (alive_calls _ (HL.out.on HB6.out)).mono ?_); rintro e w9 ⟨rfl, hb9⟩; have HB9 := Aside0.mk (btr HB6.out hb9); clear hb9))
          go_ret
          exact ⟨rfl, HB9.out⟩
        | some p =>
          obtain ⟨sz, L2⟩ := p
          obtain ⟨hO2, ht⟩ := parseP_sound hp
          have HO2 := Aside0.mk hO2
          have HPn := Aside0.mk (parse_some hp HSz.out)
          have HTt := Aside0.mk ht
          clear hp hO2 ht
          go_wp2_with (first | (go_at_call 19; (with_reducible refine (HPn.out _ (HL.out.on (btr HB5.out HW.out))).mono ?_); rintro e w6 ⟨b3, q3, rfl, hS, hb, -, -⟩; have HB6 := Aside0.mk (btr HB5.out (btr HW.out hb)); have HS6 := Aside0.mk hS; clear hb hS) | (go_at_call 11; (with_reducible refine (text_calls HS6.out HO2.out.ok (HL.out.on HB6.out)).mono ?_); rintro e w7 ⟨rfl, hb⟩; have HB7 := Aside0.mk (btr HB6.out hb); clear hb; rw [HTt.out]) | (go_at_call 10; (with_reducible refine (alive_calls _ (HL.out.on HB7.out)).mono ?_); rintro e w9 ⟨rfl, hb9⟩; have HB9 := Aside0.mk (btr HB7.out hb9); clear hb9))
          go_ret
          exact ⟨by simp, HB9.out⟩
end Go.Proofs.YtlpnggaeepjjfaaGreatDoor.Bo
namespace Go.Proofs.YtlpnggaeepjjfaaGreatDoor.Q
open Go.RowKit Go.Proofs.YtlpnggaeepjjfaaGreatDoorW.PrintWords Go.Proofs.YtlpnggaeepjjfaaGreatDoor.Bo
set_option linter.unusedVariables false
def pumicelaw14_PropsBack.f (a0 a1 : Int) (l2 : List S24) (a3 : ByteArray) : Option Bool := if l2.length ≤ 8796093022208 ∧ a3.size < 4294967281 then some true else none
theorem pumicelaw14_PropsBack.calls (a0 a1 : Int) (A2 : Option Addr) (c2 : Nat) (l2 : List S24) (a3 : ByteArray) (r : Bool) (w : World) (hL : Lw w) (hr2 : Kd.C k24 w A2 l2.length l2) (hc2 : l2.length ≤ c2) (h : pumicelaw14_PropsBack.f a0 a1 l2 a3 = some r) :
    Calls Tryz.prog 5 #[.int .i64 a0, .int .i64 a1, .slice A2 l2.length c2, .string a3] w fun e w' => e = .returned (.bool r) ∧ Below w.heap.size w w' := by
  unfold pumicelaw14_PropsBack.f at h
  split at h
  · rename_i hl
    cases h
    exact back_walk a0 a1 A2 c2 l2 a3 w hL hr2 hc2 hl.1 hl.2
  · cases h
end Go.Proofs.YtlpnggaeepjjfaaGreatDoor.Q

namespace Go.Proofs.YtlpnggaeepjjfaaGreatDoor.Bo
open Go.RowKit Go.Sort Go.Proofs.YtlpnggaeepjjfaaGreatDoorW.PrintWords Go.Proofs.YtlpnggaeepjjfaaGreatDoorW.PrintLast Go.Proofs.YtlpnggaeepjjfaaGreatDoor.Cut Go.Proofs.YtlpnggaeepjjfaaGreatDoor.Q
set_option linter.unusedVariables false
set_option linter.unusedSimpArgs false
attribute [local go_sem] eqA36
theorem free_tot (L : List Rw) : ∀ k, ((ofK 0 L k).length : Int) = (totK L k).1
  | 0 => rfl
  | k + 1 => by
    have := free_tot L k
    rw [ofK, totK, List.length_append]
    dsimp only
    split <;> simp <;> omega
theorem uses_sum {size : Int} {L : List Rw} (hO : Ok size L) : ∀ k, k ≤ L.length → (ofK 0 L k).length + (ofK 1 L k).length + (ofK 2 L k).length + (ofK 3 L k).length = k
  | 0, _ => rfl
  | k + 1, hk => by
    have := uses_sum hO k (by omega)
    have hr := hO.rows _ (getD_mem (show k < L.length by omega))
    rw [ofK, ofK, ofK, ofK, List.length_append, List.length_append, List.length_append, List.length_append]
    rcases (by omega : (L.getD k zRw).use = 0 ∨ (L.getD k zRw).use = 1 ∨ (L.getD k zRw).use = 2 ∨ (L.getD k zRw).use = 3) with e | e | e | e <;> rw [e] <;> simp <;> omega
set_option maxRecDepth 100000 in
set_option maxHeartbeats 2000000 in
theorem sums_walk (a0 a1 : Int) (A2 : Option Addr) (c2 : Nat) (l2 : List S24) (w : World) (hL : Lw w) (hr2 : Kd.C k24 w A2 l2.length l2) (hc2 : l2.length ≤ c2) (hl : l2.length ≤ 8796093022208) :
    Calls Tryz.prog 8 #[.int .i64 a0, .int .i64 a1, .slice A2 l2.length c2] w fun e w' => e = .returned (.bool true) ∧ Below w.heap.size w w' := by
  have HL := Aside0.mk hL
  by_cases hbad : badNew a0 a1
  · have HM := Aside0.mk (made_bad hbad A2 c2 l2 _ hr2 hc2 hl)
    clear hL hr2 hbad
    go_enter Tryz.func8, Tryz.ntmps8
    go_wp2_with (first | (go_at_call 9; (with_reducible refine HM.out.mono ?_); rintro e w1 ⟨rfl, hb⟩; have HB1 := Aside0.mk hb; clear hb) | (go_at_call 10; (with_reducible refine (alive_calls _ (HL.out.on HB1.out)).mono ?_); rintro e w9 ⟨rfl, hb9⟩; have HB9 := Aside0.mk (btr HB1.out hb9); clear hb9))
    go_ret
    exact ⟨rfl, HB9.out⟩
  · have HM := Aside0.mk (made_ok hbad A2 c2 l2 _ hr2 hc2 hl)
    clear hL hr2 hbad
    go_enter Tryz.func8, Tryz.ntmps8
    go_upto_region 2 with (go_at_call 9; (with_reducible refine HM.out.mono ?_); rintro e w1 ⟨b, q, L, rfl, hb, hO, hn, hS, h1, h2⟩; have HB1 := Aside0.mk hb; have HO := Aside0.mk hO; have HS1 := Aside0.mk hS; have HNn := Aside0.mk hn; clear hb hO hS h1 h2)
    obtain ⟨M, hM⟩ : ∃ M, L.length = M := ⟨_, rfl⟩
    have h256 : M ≤ 256 := by rw [← hM]; exact HO.out.ok.len
    rw [hM] at hn
    subst hn
    have HMM := Aside0.mk hM
    clear hM
    go_wp2
    go_loopw [8, 9, 10, 11] (fun f u l i wr => ∃ k : Nat, k ≤ M ∧ f = .int .i64 (totK L k).1 ∧ u = .int .i64 (totK L k).2.1 ∧ l = .int .i64 (totK L k).2.2 ∧ i = .int .i64 k ∧ Aside0 (Below w1.heap.size w1 wr)) (fun _ _ _ i _ => M - (intOf i).toNat)
    case atStart => exact ⟨0, by omega, rfl, rfl, rfl, rfl, ⟨Below.refl _ _⟩⟩
    case round =>
      obtain ⟨k, hk, rfl, rfl, rfl, rfl, HW⟩ := hrel
      have hbd := totK_bound HO.out.ok k (by rw [HMM.out]; exact hk)
      by_cases hlt : k < M
      · have hkl : k < L.length := by rw [HMM.out]; exact hlt
        have hr := HO.out.ok.rows _ (getD_mem hkl)
        have hh := HO.out.ok.hi
        have hz := HO.out.zr _ (getD_mem hkl)
        have HTn := Aside0.mk (show totK L (k + 1) = ((totK L k).1 + (if (L.getD k zRw).use = 0 then 1 else 0), (totK L k).2.1 + (L.getD k zRw).used, (totK L k).2.2 + (L.getD k zRw).live) from rfl)
        have hbl : blockR L (k : Int) = (0, L.getD k zRw) := by unfold blockR; rw [there_in hkl]
        have HBc := Aside0.mk (block_calls (HS1.out.on HW.out) (k : Int))
        rw [hbl] at HBc
        obtain ⟨⟨u, a, l, c⟩, hx⟩ : ∃ x, L.getD k zRw = x := ⟨_, rfl⟩
        rw [hx] at hr hz HTn HBc
        dsimp only at hr hz HTn
        obtain ⟨⟨tf, tu, tl⟩, ht⟩ : ∃ t, totK L k = t := ⟨_, rfl⟩
        rw [ht] at HTn hbd ⊢
        dsimp only at HTn hbd ⊢
        have j1 : (k : Int) < (M : Int) := by omega
        clear hbl hx ht hkl
        by_cases e0 : u = 0
        · have hzz := hz e0
          unfold zRw at hzz
          cases hzz
          have hw1 := Aside0.mk (w64 (n := tf + 1) (by omega) (by omega))
          have hw2 := Aside0.mk (w64 (n := tu) (by omega) (by omega))
          have hw3 := Aside0.mk (w64 (n := tl) (by omega) (by omega))
          have g1 : ¬ a1 < 0 := by have := HO.out.ok.lo; omega
          clear hz hbd hr hh e0
          have v1 := hw1.out
          have v2 := hw2.out
          have v3 := hw3.out
          go_wp2_with (go_at_call 18; (with_reducible refine HBc.out.mono ?_); rintro e w6 ⟨rfl, hb⟩; dsimp only; have HW6 := Aside0.mk (below_alloc (btr HW.out hb) (.cells #[.int .i64 0, .int .i64 0, .int .i64 0, .bool false] 36)); have hk2 := blk_new w6 (.cells #[.int .i64 0, .int .i64 0, .int .i64 0, .bool false] 36); have y0 := cell_blk (i := 0) hk2 rfl; have y1 := cell_blk (i := 1) hk2 rfl; have y2 := cell_blk (i := 2) hk2 rfl; have y3 := cell_blk (i := 3) hk2 rfl; clear hb)
          clear v1 v2 v3
          go_roundw
          case rel => exact ⟨k + 1, by omega, by rw [HTn.out, hw1.out]; simp, by rw [HTn.out]; simp [hw2.out], by rw [HTn.out]; simp [hw3.out], by go_num, HW6⟩
          case measure => simp [intOf]; omega
        · have hw2 := Aside0.mk (w64 (n := tu + a) (by omega) (by omega))
          have hw3 := Aside0.mk (w64 (n := tl + l) (by omega) (by omega))
          have g1 : ¬ l < 0 := by omega
          have g2 : ¬ a < l := by omega
          have g3 : ¬ a1 < a := by omega
          have g4 : ¬ u < 0 := by omega
          have g5 : ¬ 3 < u := by omega
          have g6 : (u == 0) = false := beq_eq_false_iff_ne.2 e0
          have HE0 := Aside0.mk e0
          clear hz hbd hr hh e0
          have v2 := hw2.out
          have v3 := hw3.out
          go_wp2_with (go_at_call 18; (with_reducible refine HBc.out.mono ?_); rintro e w6 ⟨rfl, hb⟩; dsimp only; have HW6 := Aside0.mk (below_alloc (btr HW.out hb) (.cells #[.int .i64 u, .int .i64 a, .int .i64 l, .bool c] 36)); have hk2 := blk_new w6 (.cells #[.int .i64 u, .int .i64 a, .int .i64 l, .bool c] 36); have y0 := cell_blk (i := 0) hk2 rfl; have y1 := cell_blk (i := 1) hk2 rfl; have y2 := cell_blk (i := 2) hk2 rfl; have y3 := cell_blk (i := 3) hk2 rfl; clear hb)
          clear v2 v3
          go_roundw
          case rel => exact ⟨k + 1, by omega, by rw [HTn.out, if_neg HE0.out]; simp, by rw [HTn.out, hw2.out], by rw [HTn.out, hw3.out], by go_num, HW6⟩
          case measure => simp [intOf]; omega
      · obtain rfl : k = M := by omega
        have j1 : ¬ (k : Int) < (k : Int) := by omega
        have HBw := Aside0.mk (btr HB1.out HW.out)
        have hO := HO.out.ok
        have hML := HMM.out
        have hft := free_tot L k
        have hus := uses_sum hO k (by omega)
        have HSk := Aside0.mk (HS1.out.on HW.out)
        have HLr := Aside0.mk (HL.out.on HBw.out)
        have HB := Aside0.mk (Below.refl wr.heap.size wr)
        have HF0 := Aside0.mk (show ∀ W, Below wr.heap.size wr W → Calls Tryz.prog 27 #[.pointer (some ⟨b, 0, none⟩)] W (RowPost W (ofK 0 L k)) from fun W hb => by have h := frees_calls (HSk.out.on hb) hO.len; rw [hML] at h; exact h)
        have HF1 := Aside0.mk (show ∀ W, Below wr.heap.size wr W → Calls Tryz.prog 28 #[.pointer (some ⟨b, 0, none⟩), .int .i64 1] W (RowPost W (ofK 1 L k)) from fun W hb => by have h := of_calls (HSk.out.on hb) hO.len 1; unfold ofR at h; rw [if_neg (by decide), hML] at h; exact h)
        have HF2 := Aside0.mk (show ∀ W, Below wr.heap.size wr W → Calls Tryz.prog 28 #[.pointer (some ⟨b, 0, none⟩), .int .i64 2] W (RowPost W (ofK 2 L k)) from fun W hb => by have h := of_calls (HSk.out.on hb) hO.len 2; unfold ofR at h; rw [if_neg (by decide), hML] at h; exact h)
        have HF3 := Aside0.mk (show ∀ W, Below wr.heap.size wr W → Calls Tryz.prog 28 #[.pointer (some ⟨b, 0, none⟩), .int .i64 3] W (RowPost W (ofK 3 L k)) from fun W hb => by have h := of_calls (HSk.out.on hb) hO.len 3; unfold ofR at h; rw [if_neg (by decide), hML] at h; exact h)
        have HLe := Aside0.mk (show ∀ W, Below wr.heap.size wr W → Calls Tryz.prog 26 #[.pointer (some ⟨b, 0, none⟩)] W (LeastPost W (ofK 0 L k)) from fun W hb => least_of _ W _ (HF0.out W hb))
        obtain ⟨⟨tf, tu, tl⟩, ht⟩ : ∃ t, totK L k = t := ⟨_, rfl⟩
        have HTo := Aside0.mk (show ∀ W, Below wr.heap.size wr W → Calls Tryz.prog 25 #[.pointer (some ⟨b, 0, none⟩)] W (TotPost W (tf, tu, tl)) from fun W hb => by have h := totals_calls (HSk.out.on hb) hO; rw [hML, ht] at h; exact h)
        rw [ht] at hft hbd ⊢
        dsimp only at hft hbd ⊢
        obtain ⟨lf, hlf⟩ : ∃ l, ofK 0 L k = l := ⟨_, rfl⟩
        obtain ⟨n1, hn1⟩ : ∃ n, (ofK 1 L k).length = n := ⟨_, rfl⟩
        obtain ⟨n2, hn2⟩ : ∃ n, (ofK 2 L k).length = n := ⟨_, rfl⟩
        obtain ⟨n3, hn3⟩ : ∃ n, (ofK 3 L k).length = n := ⟨_, rfl⟩
        rw [hlf] at HF0 HLe hft hus
        rw [hn1, hn2, hn3] at hus
        have HN1 := Aside0.mk hn1
        have HN2 := Aside0.mk hn2
        have HN3 := Aside0.mk hn3
        have V9 := Aside0.mk (w64 (n := tu - tl) (by omega) (by omega))
        clear hO hML ht hlf hn1 hn2 hn3 HMM
        cases lf with
        | nil =>
          have hus2 : n1 + n2 + n3 = k := by rw [List.length_nil] at hus; omega
          obtain rfl : tf = 0 := by rw [List.length_nil] at hft; omega
          have V1' := Aside0.mk (show wrap64 (n1 : Int) = (n1 : Int) from w64 (by omega) (by omega))
          have V2 := Aside0.mk (show wrap64 ((n1 : Int) + (n2 : Int)) = (n1 : Int) + (n2 : Int) from w64 (by omega) (by omega))
          have V3 := Aside0.mk (show wrap64 ((n1 : Int) + (n2 : Int) + (n3 : Int)) = (k : Int) from by rw [w64 (by omega) (by omega)]; omega)
          clear hus hus2 hft hbd
          have v9 := V9.out
          have v1' := V1'.out
          have v2 := V2.out
          have v3 := V3.out
          go_upto_region 17 with (first | (go_at_call 25; (with_reducible refine (HTo.out _ HB.out).mono ?_); rintro e w_ ⟨rfl, hb⟩; dsimp only; have n_ := Aside0.mk (btr HB.out hb); clear HB; have HB := n_; clear n_; clear hb) | (go_at_call 26; (with_reducible refine (HLe.out _ HB.out).mono ?_); rintro e w_ ⟨rfl, hb⟩; dsimp only [leastR]; have n_ := Aside0.mk (btr HB.out hb); clear HB; have HB := n_; clear n_; clear hb))
          go_wp2_with ((go_at_call 27; (with_reducible refine (HF0.out _ HB.out).mono ?_); rintro e w_ ⟨v, rfl, hr, hb⟩; obtain ⟨A_, c_, rfl⟩ := Kd.R_slice hr; rw [List.length_nil]; have n_ := Aside0.mk (btr HB.out hb); clear HB; have HB := n_; clear n_; clear hr hb))
          go_wp2_with ((go_at_call 28; (with_reducible refine (HF1.out _ HB.out).mono ?_); rintro e w_ ⟨v, rfl, hr, hb⟩; obtain ⟨A_, c_, rfl⟩ := Kd.R_slice hr; rw [HN1.out]; have n_ := Aside0.mk (btr HB.out hb); clear HB; have HB := n_; clear n_; clear hr hb))
          go_wp2_with ((go_at_call 28; (with_reducible refine (HF2.out _ HB.out).mono ?_); rintro e w_ ⟨v, rfl, hr, hb⟩; obtain ⟨A_, c_, rfl⟩ := Kd.R_slice hr; rw [HN2.out]; have n_ := Aside0.mk (btr HB.out hb); clear HB; have HB := n_; clear n_; clear hr hb))
          go_wp2_with ((go_at_call 28; (with_reducible refine (HF3.out _ HB.out).mono ?_); rintro e w_ ⟨v, rfl, hr, hb⟩; obtain ⟨A_, c_, rfl⟩ := Kd.R_slice hr; rw [HN3.out]; have n_ := Aside0.mk (btr HB.out hb); clear HB; have HB := n_; clear n_; clear hr hb))
          go_wp2_with ((go_at_call 10; (with_reducible refine (alive_calls _ (HLr.out.on HB.out)).mono ?_); rintro e w_ ⟨rfl, hb⟩; have n_ := Aside0.mk (btr HB.out hb); clear HB; have HB := n_; clear n_; clear hb))
          go_ret
          exact ⟨by simp, btr HBw.out HB.out⟩
        | cons x r =>
          obtain ⟨n0, hn0⟩ : ∃ n, (x :: r).length = n := ⟨_, rfl⟩
          have hpos : 0 < n0 := by rw [← hn0]; exact Nat.zero_lt_succ _
          rw [hn0] at hft hus
          obtain rfl : (n0 : Int) = tf := hft
          have HN0 := Aside0.mk hn0
          have t0 : (0 : Int) < (n0 : Int) := by omega
          have V1 := Aside0.mk (show wrap64 ((n0 : Int) + (n1 : Int)) = (n0 : Int) + (n1 : Int) from w64 (by omega) (by omega))
          have V2 := Aside0.mk (show wrap64 ((n0 : Int) + (n1 : Int) + (n2 : Int)) = (n0 : Int) + (n1 : Int) + (n2 : Int) from w64 (by omega) (by omega))
          have V3 := Aside0.mk (show wrap64 ((n0 : Int) + (n1 : Int) + (n2 : Int) + (n3 : Int)) = (k : Int) from by rw [w64 (by omega) (by omega)]; omega)
          clear hus hn0 hbd hpos
          have v9 := V9.out
          have v1 := V1.out
          have v2 := V2.out
          have v3 := V3.out
          go_upto_region 17 with (first | (go_at_call 25; (with_reducible refine (HTo.out _ HB.out).mono ?_); rintro e w_ ⟨rfl, hb⟩; dsimp only; have n_ := Aside0.mk (btr HB.out hb); clear HB; have HB := n_; clear n_; clear hb) | (go_at_call 26; (with_reducible refine (HLe.out _ HB.out).mono ?_); rintro e w_ ⟨rfl, hb⟩; dsimp only [leastR]; have n_ := Aside0.mk (btr HB.out hb); clear HB; have HB := n_; clear n_; clear hb))
          go_wp2_with ((go_at_call 27; (with_reducible refine (HF0.out _ HB.out).mono ?_); rintro e w_ ⟨v, rfl, hr, hb⟩; obtain ⟨g_, c_, rfl, -, hcs⟩ := R_at hr (Nat.zero_lt_succ _); have hz_ := hcs 0 x rfl; rw [HN0.out]; have n_ := Aside0.mk (btr HB.out hb); clear HB; have HB := n_; clear n_; clear hr hb hcs))
          go_wp2_with ((go_at_call 28; (with_reducible refine (HF1.out _ HB.out).mono ?_); rintro e w_ ⟨v, rfl, hr, hb⟩; obtain ⟨A_, c_, rfl⟩ := Kd.R_slice hr; rw [HN1.out]; have n_ := Aside0.mk (btr HB.out hb); clear HB; have HB := n_; clear n_; clear hr hb))
          go_wp2_with ((go_at_call 28; (with_reducible refine (HF2.out _ HB.out).mono ?_); rintro e w_ ⟨v, rfl, hr, hb⟩; obtain ⟨A_, c_, rfl⟩ := Kd.R_slice hr; rw [HN2.out]; have n_ := Aside0.mk (btr HB.out hb); clear HB; have HB := n_; clear n_; clear hr hb))
          go_wp2_with ((go_at_call 28; (with_reducible refine (HF3.out _ HB.out).mono ?_); rintro e w_ ⟨v, rfl, hr, hb⟩; obtain ⟨A_, c_, rfl⟩ := Kd.R_slice hr; rw [HN3.out]; have n_ := Aside0.mk (btr HB.out hb); clear HB; have HB := n_; clear n_; clear hr hb))
          go_wp2_with ((go_at_call 27; (with_reducible refine (HF0.out _ HB.out).mono ?_); rintro e w_ ⟨v, rfl, hr, hb⟩; obtain ⟨g_, c_, rfl, -, hcs⟩ := R_at hr (Nat.zero_lt_succ _); have hz_ := hcs 0 x rfl; rw [HN0.out]; have n_ := Aside0.mk (btr HB.out hb); clear HB; have HB := n_; clear n_; clear hr hb hcs))
          go_wp2_with ((go_at_call 10; (with_reducible refine (alive_calls _ (HLr.out.on HB.out)).mono ?_); rintro e w_ ⟨rfl, hb⟩; have n_ := Aside0.mk (btr HB.out hb); clear HB; have HB := n_; clear n_; clear hb))
          go_ret
          exact ⟨by simp, btr HBw.out HB.out⟩
end Go.Proofs.YtlpnggaeepjjfaaGreatDoor.Bo
namespace Go.Proofs.YtlpnggaeepjjfaaGreatDoor.Q
open Go.RowKit Go.Proofs.YtlpnggaeepjjfaaGreatDoorW.PrintWords Go.Proofs.YtlpnggaeepjjfaaGreatDoor.Bo
set_option linter.unusedVariables false
def pumicelaw14_PropsSums.f (a0 a1 : Int) (l2 : List S24) : Option Bool := if l2.length ≤ 8796093022208 then some true else none
theorem pumicelaw14_PropsSums.calls (a0 a1 : Int) (A2 : Option Addr) (c2 : Nat) (l2 : List S24) (r : Bool) (w : World) (hL : Lw w) (hr2 : Kd.C k24 w A2 l2.length l2) (hc2 : l2.length ≤ c2) (h : pumicelaw14_PropsSums.f a0 a1 l2 = some r) :
    Calls Tryz.prog 8 #[.int .i64 a0, .int .i64 a1, .slice A2 l2.length c2] w fun e w' => e = .returned (.bool r) ∧ Below w.heap.size w w' := by
  unfold pumicelaw14_PropsSums.f at h
  split at h
  · rename_i hl
    cases h
    exact sums_walk a0 a1 A2 c2 l2 w hL hr2 hc2 hl
  · cases h
end Go.Proofs.YtlpnggaeepjjfaaGreatDoor.Q

namespace Go.Proofs.YtlpnggaeepjjfaaGreatDoor.As
open Go.RowKit Go.ChangeShapes Go.WideShapes
def rowLaid : List (String × DataW Unit) := [("math/bits.deBruijn32tab", Rows.laid_math_bits_deBruijn32tab), ("math/bits.deBruijn64tab", Rows.laid_math_bits_deBruijn64tab), ("internal/strconv.uint64pow10", Rows.laid_internal_strconv_uint64pow10), ("unicode/utf8.acceptRanges", Rows.laid_unicode_utf8_acceptRanges), ("strconv.ErrRange", Rows.laid_strconv_ErrRange), ("strconv.ErrSyntax", Rows.laid_strconv_ErrSyntax), ("unicode/utf8.first", Rows.laid_unicode_utf8_first)]
theorem pow10_data : (Rows.laid_internal_strconv_uint64pow10 : DataW Unit) = Lib.tabData .u64 Lib.pow10Tab := by kernel_rfl
theorem synGlobal : Tryz.prog.globalNamed "strconv.ErrSyntax" = some 2 := by kernel_rfl
theorem ranGlobal : Tryz.prog.globalNamed "strconv.ErrRange" = some 3 := by kernel_rfl
theorem synType : (Tryz.prog.globals[2]?).map (·.type) = some 63 := by kernel_rfl
theorem ranType : (Tryz.prog.globals[3]?).map (·.type) = some 63 := by kernel_rfl
theorem cells164 : Tryz.prog.cellsOf 164 = 1 := by kernel_rfl
theorem cells9 : Tryz.prog.cellsOf 9 = 1 := by kernel_rfl
theorem star : "*" ++ "errors.errorString" = "*errors.errorString" := by decide
theorem row162 (u : TypeId) (h : Tryz.prog.typeName? 3 u = some "*errors.errorString") : u = 162 :=
  typeName_ptr_named (nm := "errors.errorString") (by rw [star]; kernel_rfl) (by kernel_rfl) (by decide) u (by rw [star]; exact h)
theorem laid_of_row {W : World} (h : laidMetH Tryz.prog rowLaid W) (hs : W.ShapedOpen Tryz.prog) : Bo.Lw W := by
  have h' : laidMet Tryz.prog rowLaid W := by rw [← Go.MakeChecks.laidMetH_plain Tryz.prog rowLaid W (by kernel_rfl)]; exact h
  refine ⟨?_, ?_, ?_, ?_⟩
  · have h3 := h'.tail.tail
    rw [pow10_data] at h3
    exact Lib.tabIs_of_head (t := 144) (e := 117) (n := 20) Bo.pow10_global (by kernel_rfl) Tryz.underlying144 Tryz.underlying117 (by kernel_rfl) (by kernel_rfl) h3
  · exact Go.Proofs.cell_of_shapedOpen_int (g := 1) (t := 3) (zero := #[.int .i64 0]) hs (by decide +kernel) (by kernel_rfl) rfl (by kernel_rfl) (by kernel_rfl) Tryz.underlying3
  · obtain ⟨a, s, hv, _⟩ := laid_sentinel h'.tail.tail.tail.tail.tail synGlobal synType Tryz.underlying63 row162 Tryz.underlying162 Tryz.underlying164 rfl rfl Tryz.underlying9 cells164 cells9
    exact ⟨_, _, by simpa using World.var?_cell synGlobal hv 0⟩
  · obtain ⟨a, s, hv, _⟩ := laid_sentinel h'.tail.tail.tail.tail ranGlobal ranType Tryz.underlying63 row162 Tryz.underlying162 Tryz.underlying164 rfl rfl Tryz.underlying9 cells164 cells9
    exact ⟨_, _, by simpa using World.var?_cell ranGlobal hv 0⟩
noncomputable def low : Nat := (World.holding Tryz.prog default ⟨#[], #[], []⟩).heap.size
/-- A world that meets the condition: the settled one, the variables' cells laid. -/
noncomputable def laidWorld (os : Os) : World :=
  let w0 := World.holding Tryz.prog os ⟨#[.cells #[.string ⟨#[118, 97, 108, 117, 101, 32, 111, 117, 116, 32, 111, 102, 32, 114, 97, 110, 103, 101]⟩] 164, .cells #[.string ⟨#[105, 110, 118, 97, 108, 105, 100, 32, 115, 121, 110, 116, 97, 120]⟩] 164], #[], []⟩
  { w0 with heap := (((((((w0.heap.modify 0 (fun | .cells _ t frozen => .cells (#[.int .u64 1, .int .u64 10, .int .u64 100, .int .u64 1000, .int .u64 10000, .int .u64 100000, .int .u64 1000000, .int .u64 10000000, .int .u64 100000000, .int .u64 1000000000, .int .u64 10000000000, .int .u64 100000000000, .int .u64 1000000000000, .int .u64 10000000000000, .int .u64 100000000000000, .int .u64 1000000000000000, .int .u64 10000000000000000, .int .u64 100000000000000000, .int .u64 1000000000000000000, .int .u64 10000000000000000000]) t frozen | o => o)).modify 2 (fun | .cells _ t frozen => .cells (#[.iface 162 (.pointer (some ⟨low + 1, 0, none⟩))]) t frozen | o => o)).modify 3 (fun | .cells _ t frozen => .cells (#[.iface 162 (.pointer (some ⟨low, 0, none⟩))]) t frozen | o => o)).modify 4 (fun | .cells _ t frozen => .cells (#[.int .u8 240, .int .u8 240, .int .u8 240, .int .u8 240, .int .u8 240, .int .u8 240, .int .u8 240, .int .u8 240, .int .u8 240, .int .u8 240, .int .u8 240, .int .u8 240, .int .u8 240, .int .u8 240, .int .u8 240, .int .u8 240, .int .u8 240, .int .u8 240, .int .u8 240, .int .u8 240, .int .u8 240, .int .u8 240, .int .u8 240, .int .u8 240, .int .u8 240, .int .u8 240, .int .u8 240, .int .u8 240, .int .u8 240, .int .u8 240, .int .u8 240, .int .u8 240, .int .u8 240, .int .u8 240, .int .u8 240, .int .u8 240, .int .u8 240, .int .u8 240, .int .u8 240, .int .u8 240, .int .u8 240, .int .u8 240, .int .u8 240, .int .u8 240, .int .u8 240, .int .u8 240, .int .u8 240, .int .u8 240, .int .u8 240, .int .u8 240, .int .u8 240, .int .u8 240, .int .u8 240, .int .u8 240, .int .u8 240, .int .u8 240, .int .u8 240, .int .u8 240, .int .u8 240, .int .u8 240, .int .u8 240, .int .u8 240, .int .u8 240, .int .u8 240, .int .u8 240, .int .u8 240, .int .u8 240, .int .u8 240, .int .u8 240, .int .u8 240, .int .u8 240, .int .u8 240, .int .u8 240, .int .u8 240, .int .u8 240, .int .u8 240, .int .u8 240, .int .u8 240, .int .u8 240, .int .u8 240, .int .u8 240, .int .u8 240, .int .u8 240, .int .u8 240, .int .u8 240, .int .u8 240, .int .u8 240, .int .u8 240, .int .u8 240, .int .u8 240, .int .u8 240, .int .u8 240, .int .u8 240, .int .u8 240, .int .u8 240, .int .u8 240, .int .u8 240, .int .u8 240, .int .u8 240, .int .u8 240, .int .u8 240, .int .u8 240, .int .u8 240, .int .u8 240, .int .u8 240, .int .u8 240, .int .u8 240, .int .u8 240, .int .u8 240, .int .u8 240, .int .u8 240, .int .u8 240, .int .u8 240, .int .u8 240, .int .u8 240, .int .u8 240, .int .u8 240, .int .u8 240, .int .u8 240, .int .u8 240, .int .u8 240, .int .u8 240, .int .u8 240, .int .u8 240, .int .u8 240, .int .u8 240, .int .u8 240, .int .u8 240, .int .u8 241, .int .u8 241, .int .u8 241, .int .u8 241, .int .u8 241, .int .u8 241, .int .u8 241, .int .u8 241, .int .u8 241, .int .u8 241, .int .u8 241, .int .u8 241, .int .u8 241, .int .u8 241, .int .u8 241, .int .u8 241, .int .u8 241, .int .u8 241, .int .u8 241, .int .u8 241, .int .u8 241, .int .u8 241, .int .u8 241, .int .u8 241, .int .u8 241, .int .u8 241, .int .u8 241, .int .u8 241, .int .u8 241, .int .u8 241, .int .u8 241, .int .u8 241, .int .u8 241, .int .u8 241, .int .u8 241, .int .u8 241, .int .u8 241, .int .u8 241, .int .u8 241, .int .u8 241, .int .u8 241, .int .u8 241, .int .u8 241, .int .u8 241, .int .u8 241, .int .u8 241, .int .u8 241, .int .u8 241, .int .u8 241, .int .u8 241, .int .u8 241, .int .u8 241, .int .u8 241, .int .u8 241, .int .u8 241, .int .u8 241, .int .u8 241, .int .u8 241, .int .u8 241, .int .u8 241, .int .u8 241, .int .u8 241, .int .u8 241, .int .u8 241, .int .u8 241, .int .u8 241, .int .u8 2, .int .u8 2, .int .u8 2, .int .u8 2, .int .u8 2, .int .u8 2, .int .u8 2, .int .u8 2, .int .u8 2, .int .u8 2, .int .u8 2, .int .u8 2, .int .u8 2, .int .u8 2, .int .u8 2, .int .u8 2, .int .u8 2, .int .u8 2, .int .u8 2, .int .u8 2, .int .u8 2, .int .u8 2, .int .u8 2, .int .u8 2, .int .u8 2, .int .u8 2, .int .u8 2, .int .u8 2, .int .u8 2, .int .u8 2, .int .u8 19, .int .u8 3, .int .u8 3, .int .u8 3, .int .u8 3, .int .u8 3, .int .u8 3, .int .u8 3, .int .u8 3, .int .u8 3, .int .u8 3, .int .u8 3, .int .u8 3, .int .u8 35, .int .u8 3, .int .u8 3, .int .u8 52, .int .u8 4, .int .u8 4, .int .u8 4, .int .u8 68, .int .u8 241, .int .u8 241, .int .u8 241, .int .u8 241, .int .u8 241, .int .u8 241, .int .u8 241, .int .u8 241, .int .u8 241, .int .u8 241, .int .u8 241]) t frozen | o => o)).modify 5 (fun | .cells _ t frozen => .cells (#[.int .u8 128, .int .u8 191, .int .u8 160, .int .u8 191, .int .u8 128, .int .u8 159, .int .u8 144, .int .u8 191, .int .u8 128, .int .u8 143, .int .u8 0, .int .u8 0, .int .u8 0, .int .u8 0, .int .u8 0, .int .u8 0, .int .u8 0, .int .u8 0, .int .u8 0, .int .u8 0, .int .u8 0, .int .u8 0, .int .u8 0, .int .u8 0, .int .u8 0, .int .u8 0, .int .u8 0, .int .u8 0, .int .u8 0, .int .u8 0, .int .u8 0, .int .u8 0]) t frozen | o => o)).modify 6 (fun | .cells _ t frozen => .cells (#[.int .u8 0, .int .u8 1, .int .u8 28, .int .u8 2, .int .u8 29, .int .u8 14, .int .u8 24, .int .u8 3, .int .u8 30, .int .u8 22, .int .u8 20, .int .u8 15, .int .u8 25, .int .u8 17, .int .u8 4, .int .u8 8, .int .u8 31, .int .u8 27, .int .u8 13, .int .u8 23, .int .u8 21, .int .u8 19, .int .u8 16, .int .u8 7, .int .u8 26, .int .u8 12, .int .u8 18, .int .u8 6, .int .u8 11, .int .u8 5, .int .u8 10, .int .u8 9]) t frozen | o => o)).modify 7 (fun | .cells _ t frozen => .cells (#[.int .u8 0, .int .u8 1, .int .u8 56, .int .u8 2, .int .u8 57, .int .u8 49, .int .u8 28, .int .u8 3, .int .u8 61, .int .u8 58, .int .u8 42, .int .u8 50, .int .u8 38, .int .u8 29, .int .u8 17, .int .u8 4, .int .u8 62, .int .u8 47, .int .u8 59, .int .u8 36, .int .u8 45, .int .u8 43, .int .u8 51, .int .u8 22, .int .u8 53, .int .u8 39, .int .u8 33, .int .u8 30, .int .u8 24, .int .u8 18, .int .u8 12, .int .u8 5, .int .u8 63, .int .u8 55, .int .u8 48, .int .u8 27, .int .u8 60, .int .u8 41, .int .u8 37, .int .u8 16, .int .u8 46, .int .u8 35, .int .u8 44, .int .u8 21, .int .u8 52, .int .u8 32, .int .u8 23, .int .u8 11, .int .u8 54, .int .u8 26, .int .u8 40, .int .u8 15, .int .u8 34, .int .u8 20, .int .u8 31, .int .u8 10, .int .u8 25, .int .u8 14, .int .u8 19, .int .u8 9, .int .u8 13, .int .u8 8, .int .u8 7, .int .u8 6]) t frozen | o => o)) }
theorem laidWorld_met (os : Os) (args : Array Value) : laidMetH Tryz.prog rowLaid ((laidWorld os).forCall (fun _ _ => 0) ⟨#[], args, []⟩).memory :=
  laidMetH_of_parts (laidMet_of_run' 8 (by kernel_rfl) (by kernel_rfl)) (by kernel_rfl)
/-- The law of a row that changes nothing, with a condition on the world and with the world's shape. -/
theorem change_and_shaped {H : Type} {enc : TypeId × Value → H} {a : Assume} {C : Checked} {os : Os} {f : FuncId} {fn : Func} {s : ChangeSpec} {conds : List PathCond} {apart fresh handsOn again : Bool} {X : World → Array Value → Prop}
    (hX : ∀ (w w' : World) (args : Array Value), w.heap = w'.heap → X w args → X w' args)
    (own : ownKnob C.prog.godebug = none) (started : os.Started) (noInit : C.prog.inits.idxOf? f = none) (hfn : C.prog.funcs[f]? = some fn)
    (witness : ∃ (w : World) (tape : Tape) (i : Input), w.os = os ∧ (w.forCall tape i).Shaped C.prog ∧ i.vars = [] ∧ Input.okWide C.prog (w.forCall tape i) .any w.heap.size f i ∧
      ((s.pre enc C.prog fn conds apart (w.forCall tape i).memory i.args ∧ X (w.forCall tape i).memory i.args) ∧ sizedMet enc C.prog fn (OpenSpec.ofChange s) apart (w.forCall tape i).memory i.args) ∧ a.holds C.prog (lone (Frame.enter C.prog f i.args .normal) [] (w.forCall tape i)))
    (contract : ∀ (W : World) (base : Nat) (args : Array Value) (ds gs : List (DataW H)) (before : List MemPlace),
      (∀ (j : Nat) t v, fn.params[j]? = some t → args[j]? = some v → Value.okWide C.prog W .any base t v) →
      DataW.Whole enc C.prog fn.params.toList s.vars apart W args.toList ds gs before →
      conds.all (PathCond.test C.prog ⟨fn.params.toList, ds, s.plain.varTypes C.prog, gs⟩) = true →
      (DataW.weightsEach C.prog (fn.params.toList ++ s.plain.varTypes C.prog) (ds ++ gs)).all (· ≤ reachBytes) = true → X W args → W.ShapedOpen C.prog →
      a.holds C.prog (lone (Frame.enter C.prog f args .normal) [] W) →
      Calls C.prog f args W fun e W' => ∃ v, e = .returned v ∧ s.post enc C.prog fn apart fresh handsOn again W args v W') :
    ReturnsInHanded a C os f .any (fun w args => (s.pre enc C.prog fn conds apart w args ∧ X w args) ∧ sizedMet enc C.prog fn (OpenSpec.ofChange s) apart w args) (s.post enc C.prog fn apart fresh handsOn again) := by
  refine returnsInHanded_of_calls own started noInit witness ?_
  intro w tape i _ hsh _ hok hpre hholds
  obtain ⟨_, _, _, fn', hfn', _, _, _, _, hval⟩ := hok
  have e : fn' = fn := Option.some.inj (hfn'.symm.trans hfn)
  subst e
  obtain ⟨⟨⟨ds, gs, before, hw, hc⟩, hx⟩, hz⟩ := hpre
  have hw' := DataW.Whole.of_heap (w' := w.forCall tape i) (by rfl) hw
  refine (contract (w.forCall tape i) w.heap.size i.args ds gs before hval hw' hc (hz.weights hw) (hX _ _ _ (by rfl) hx) hsh hholds).mono fun e W' ⟨v, he, hp⟩ => ?_
  subst he
  exact ChangeSpec.post_blind hp
end Go.Proofs.YtlpnggaeepjjfaaGreatDoor.As

namespace Go.Proofs.YtlpnggaeepjjfaaGreatDoor.propsSums
open Go.ChangeShapes Go.WideShapes Go.ChangeAt Go.RowKit Go.Proofs.YtlpnggaeepjjfaaGreatDoorW.PrintWords Go.Proofs.YtlpnggaeepjjfaaGreatDoor.Q
open Go.ChangeMaps (open_string shut_string)
set_option linter.unusedVariables false
set_option linter.unusedSimpArgs false
theorem own : ownKnob Tryz.prog.godebug = none := by kernel_rfl
theorem laidOut : laidOutB Tryz.prog = true := by kernel_rfl
def dat24 {H : Type} : S24 → DataW H := fun x : S24 => (.agg [.lit (.int .i64 x.f0), .lit (.int .i64 x.f1), .lit (.int .i64 x.f2)] : DataW H)
def ok24 (x : S24) : Prop := (Lit.int .i64 x.f0).wf = true ∧ (Lit.int .i64 x.f1).wf = true ∧ (Lit.int .i64 x.f2).wf = true
theorem el24 {H : Type} {enc : TypeId × Value → H} {W : World} : ∀ fuel cs (x : DataW H × List MemPlace), DataW.trod enc Tryz.prog W 0 (fun _ => true) true fuel 24 cs = some x → ∃ a : S24, Kd.K k24 W a cs ∧ x.1 = dat24 a ∧ ok24 a := by
  intro fuel cs x h
  obtain ⟨ys, n, hd, hyl, hcl, hfs⟩ := R0.struct_fields Tryz.underlying24 (by kernel_rfl) (by kernel_rfl) h
  obtain ⟨c0, y0, hc0, hy0, ht0⟩ := hfs 0 _ rfl
  obtain ⟨a0, rfl, hd0, w0⟩ := R0.int_cell Tryz.underlying3 ht0
  obtain ⟨c1, y1, hc1, hy1, ht1⟩ := hfs 1 _ rfl
  obtain ⟨a1, rfl, hd1, w1⟩ := R0.int_cell Tryz.underlying3 ht1
  obtain ⟨c2, y2, hc2, hy2, ht2⟩ := hfs 2 _ rfl
  obtain ⟨a2, rfl, hd2, w2⟩ := R0.int_cell Tryz.underlying3 ht2
  obtain rfl := R0.list3 hcl hc0 hc1 hc2
  obtain rfl := R0.list3 hyl hy0 hy1 hy2
  refine ⟨⟨a0, a1, a2⟩, k24_mk _ _, ?_, ⟨w0, w1, w2⟩⟩
  rw [hd]
  simp only [List.map_cons, List.map_nil, hd0, hd1, hd2]
  rfl
set_option maxRecDepth 100000 in
set_option maxHeartbeats 1600000 in
theorem contract (H : Type) (enc : TypeId × Value → H) (W : World) (base : Nat) (args : Array Value) (ds gs : List (DataW H)) (before : List MemPlace)
    (hval0 : ∀ (j : Nat) t v, Tryz.f8.params[j]? = some t → args[j]? = some v → Value.okWide Tryz.prog W .any base t v)
    (hW : DataW.Whole enc Tryz.prog Tryz.f8.params.toList Rows.propsSumsSpec.vars false W args.toList ds gs before) (hsz0 : (DataW.weightsEach Tryz.prog (Tryz.f8.params.toList ++ Rows.propsSumsSpec.plain.varTypes Tryz.prog) (ds ++ gs)).all (· ≤ reachBytes) = true) (hL : laidMetH Tryz.prog As.rowLaid W) (hSh : W.ShapedOpen Tryz.prog) :
    Calls Tryz.prog 8 args W fun e W' => ∃ v, e = .returned v ∧ Rows.propsSumsSpec.post enc Tryz.prog Tryz.f8 false true false false W args v W' := by
  have hsz : (DataW.weightsEach Tryz.prog (Tryz.f8.params.toList ++ Rows.propsSumsSpec.plain.varTypes Tryz.prog) (ds ++ gs)).all (· ≤ reachBytes) = true := hsz0
  have hval : ∀ (j : Nat) t v, Tryz.f8.params[j]? = some t → args[j]? = some v → Value.okWide Tryz.prog W .any base t v := hval0
  have hW' := hW
  obtain ⟨p, q, hA0, hV, rfl, hfz, hnd⟩ := hW
  have hA : DataW.TrodAll enc Tryz.prog W 0 (fun _ => true) true Tryz.f8.params.toList args.toList ds p := hA0
  rw [Tryz.params8] at hA hval hsz
  obtain ⟨v0, vs0, d0, ds0, p0, q0, hargs, rfl, rfl, h0, r0⟩ := trodAll_cons hA
  obtain ⟨v1, vs1, d1, ds1, p1, q1, rfl, rfl, rfl, h1, r1⟩ := trodAll_cons r0
  obtain ⟨v2, vs2, d2, ds2, p2, q2, rfl, rfl, rfl, h2, r2⟩ := trodAll_cons r1
  obtain ⟨rfl, rfl, rfl⟩ := trodAll_nil r2
  obtain rfl : args = #[v0, v1, v2] := by cases args; simp_all
  obtain ⟨rfl, rfl⟩ := trodVars_none hV
  have k0 := h0
  have lt0 : ∀ x ∈ p0, x.block < W.heap.size := by obtain ⟨m, hm⟩ := k0; exact DataW.trod_lt m _ _ _ hm
  obtain ⟨a0, rfl, rfl, rfl, w0⟩ := open_int Tryz.underlying3 (hval 0 3 v0 rfl rfl) h0
  have k1 := h1
  have lt1 : ∀ x ∈ p1, x.block < W.heap.size := by obtain ⟨m, hm⟩ := k1; exact DataW.trod_lt m _ _ _ hm
  obtain ⟨a1, rfl, rfl, rfl, w1⟩ := open_int Tryz.underlying3 (hval 1 3 v1 rfl rfl) h1
  have k2 := h2
  have lt2 : ∀ x ∈ p2, x.block < W.heap.size := by obtain ⟨m, hm⟩ := k2; exact DataW.trod_lt m _ _ _ hm
  obtain ⟨A2, l2, c2, sp2, rfl, hc2, hr2, hd2, o2⟩ := R0.slice_open k24 dat24 ok24 Tryz.underlying22 (by kernel_rfl) el24 (hval 2 22 v2 rfl rfl) h2
  have m2 : l2.length * Tryz.prog.bytesOf 24 ≤ 140737488351232 := by
    rcases hd2 with ⟨hD, hl⟩ | hD
    · rw [hl]; simp
    · have q := hsz
      rw [hD] at q
      have q1 := R0.sized_len q (j := 2) (t := 22) rfl rfl Tryz.underlying22
      simpa using q1
  clear hA0 hval0 hsz0 hsz
  have hpure := (show Q.pumicelaw14_PropsSums.f a0 a1 l2 = some true from if_pos (by have h_ := m2; have hb_ : Tryz.prog.bytesOf 24 = 24 := (by kernel_rfl); rw [hb_] at h_; omega))
  refine (Q.pumicelaw14_PropsSums.calls a0 a1 _ _ l2 true W (As.laid_of_row hL hSh) hr2 hc2 hpure).mono fun e W' ⟨he, bel0⟩ => ?_
  have bel : Below W.heap.size W W' := bel0
  subst he
  exact ⟨_, rfl, _, _, _, [], _, [], hW', trodAll_mk1 (shut_bool Tryz.underlying4 _), (trodAll_cons_mk (Below.trod laidOut (by kernel_rfl) (of_decide_eq_true (by kernel_rfl)) k0 bel lt0) (trodAll_cons_mk (Below.trod laidOut (by kernel_rfl) (of_decide_eq_true (by kernel_rfl)) k1 bel lt1) (trodAll_cons_mk (Below.trod laidOut (by kernel_rfl) (of_decide_eq_true (by kernel_rfl)) k2 bel lt2) trodAll_mk0))), rfl, bel.frame _, fun h => by cases h⟩
set_option maxRecDepth 100000 in
theorem lifted (os : Os) (started : os.Started) (H : Type) (enc : TypeId × Value → H) :
    ReturnsInHanded {} Tryz.checked os 8 .any (fun w args => (Rows.propsSumsSpec.pre enc Tryz.prog Tryz.f8 [] false w args ∧ laidMetH Tryz.prog As.rowLaid w) ∧ sizedMet enc Tryz.prog Tryz.f8 (OpenSpec.ofChange Rows.propsSumsSpec) false w args) (Rows.propsSumsSpec.post enc Tryz.prog Tryz.f8 false true false false) := by
  refine As.change_and_shaped (C := Tryz.checked) (X := (fun w _ => laidMetH Tryz.prog As.rowLaid w)) (fun _ _ _ hh h => h.of_heap hh) own started (by kernel_rfl) Tryz.func8
    (ChangeSpec.witness_at (enc := enc) (C := Tryz.checked) (os := os) (X := (fun w _ => laidMetH Tryz.prog As.rowLaid w)) false (As.laidWorld os) #[.int .i64 0, .int .i64 0, .slice none 0 0] 8 rfl (by kernel_rfl) (by kernel_rfl) (by kernel_rfl) (by kernel_rfl) (by kernel_rfl) (As.laidWorld_met os _)) ?_
  intro W base args ds gs before hval hW _ hsz hL hSh _
  exact contract H enc W base args ds gs before hval hW hsz hL hSh
theorem over : Rows.propsSumsRow.holds Tryz.pinned (OpenSpec.ofChange Rows.propsSumsSpec) :=
  OpenClaim.holds_of_wide 8 Tryz.f8 rfl rfl rfl rfl rfl rfl rfl ⟨rfl, rfl, rfl, rfl, rfl⟩ rfl rfl rfl rfl rfl (by kernel_rfl) Tryz.func8 (by kernel_rfl)
    (of_decide_eq_true (by kernel_rfl)) (by unfold Func.isWrapper; first | (rw [if_pos (by decide +kernel)]; kernel_rfl) | (rw [if_neg (by decide +kernel)]; exact ⟨rfl, rfl⟩))
    (fun os started H enc _ => lifted os started H enc)
theorem card : Rows.PropsSumsCardSaid :=
  Claim7.holds_tied_plain_at .later [] [.data, .data, .data, .data, .sentinel, .sentinel, .pinned] true (true, "5073e521733e0d4aadbd2993afe9d363fc5f3ed24e86c13892bea69a8cccabd3") true
    over (fun _ h => by cases h) (by kernel_rfl) (fun _ h => by cases h) propsSums_row_tie rfl ⟨rfl, rfl⟩ (by kernel_rfl) rfl
    (fun f fn hf hfn => by
      obtain rfl : f = 8 := Option.some.inj ((show Tryz.prog.funcNamed "pumice/pumicelaw14.PropsSums" = some 8 by kernel_rfl).symm.trans hf) |>.symm
      obtain rfl : fn = Tryz.f8 := (Option.some.inj (Tryz.func8.symm.trans hfn)).symm
      exact ⟨by kernel_rfl, fun j t ht => by
        rw [Tryz.params8] at ht
        have hm := Array.mem_of_getElem? ht
        simp only [List.mem_toArray, List.mem_cons, List.not_mem_nil, or_false] at hm
        rcases hm with rfl | rfl | rfl
        · exact (show Tryz.prog.wantsStandIn 3 = false by kernel_rfl)
        · exact (show Tryz.prog.wantsStandIn 3 = false by kernel_rfl)
        · exact (show Tryz.prog.wantsStandIn 22 = false by kernel_rfl)⟩)
    (by kernel_rfl)
end Go.Proofs.YtlpnggaeepjjfaaGreatDoor.propsSums
namespace Go.Proofs.YtlpnggaeepjjfaaGreatDoor
/-- The row. -/
theorem propsSums_holds : Rows.PropsSumsCardSaid := propsSums.card
#print axioms propsSums_holds
end Go.Proofs.YtlpnggaeepjjfaaGreatDoor
