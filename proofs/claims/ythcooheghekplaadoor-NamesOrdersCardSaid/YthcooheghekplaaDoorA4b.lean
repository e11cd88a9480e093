/- Plain: Less, Sort: NamesOrders, NamesSorted. No condition beside the lengths. -/
import Derived.Test.YthcooheghekplaaDoorA4a
namespace Go.Proofs.YthcooheghekplaaDoor.Q
open Go.RowKit Go.Proofs.YthcooheghekplaaDoorW.PrintWords Go.Proofs.YthcooheghekplaaDoorW.PrintLast Go.Proofs.YthcooheghekplaaDoorW.PrintMore Go.Proofs.YthcooheghekplaaDoor.Cut
set_option linter.unusedVariables false
set_option linter.unusedSimpArgs false
theorem ws {i : Nat} (h : i < 9000000000000000000) : wrap64 ((i : Int) + 1) = ((i + 1 : Nat) : Int) := by rw [w64 _ (by omega)]; omega
/-! ### the order -/
theorem srt_trans (a b c : List UInt8) (h : decide (a ≤ b) = true) (h' : decide (b ≤ c) = true) : decide (a ≤ c) = true := decide_eq_true (List.le_trans (of_decide_eq_true h) (of_decide_eq_true h'))
theorem srt_total (a b : List UInt8) : (decide (a ≤ b) || decide (b ≤ a)) = true := by
  rcases List.le_total a b with h | h
  · rw [decide_eq_true h]; rfl
  · rw [decide_eq_true h, Bool.or_true]
theorem D_mkB (l : List UInt8) : D (mkB l) = l := mkB_data l
theorem map_DB (l : List (List UInt8)) : (l.map mkB).map D = l := by
  rw [List.map_map]
  exact (List.map_congr_left (fun a _ => D_mkB a)).trans (List.map_id l)
theorem map_BD (l : List ByteArray) : (l.map D).map mkB = l := by
  rw [List.map_map]
  exact (List.map_congr_left (fun a _ => mkB_self a)).trans (List.map_id l)
theorem sortT_D (l : List ByteArray) : (sortT l).map D = (l.map D).mergeSort (fun x y => decide (x ≤ y)) := map_DB _
theorem sortT_sorted (l : List ByteArray) : ((sortT l).map D).Pairwise (fun x y => x ≤ y) := by
  rw [sortT_D]
  exact (List.pairwise_mergeSort srt_trans srt_total (l.map D)).imp (fun h => of_decide_eq_true h)
theorem sortT_perm (l : List ByteArray) : (sortT l).Perm l := by
  have h := (List.mergeSort_perm (l.map D) (fun x y => decide (x ≤ y))).map mkB
  rw [map_BD] at h
  exact h
theorem sortT_uniq {l m : List ByteArray} (hp : m.Perm l) (hs : (m.map D).Pairwise (fun x y => x ≤ y)) : m = sortT l := by
  have h := List.Perm.eq_of_pairwise (le := fun x y : List UInt8 => x ≤ y) (fun a b _ _ h k => List.le_antisymm h k) hs (sortT_sorted l) ((hp.map D).trans ((sortT_perm l).map D).symm)
  rw [← map_BD m, h, map_BD]
theorem sortT_len (l : List ByteArray) : (sortT l).length = l.length := (sortT_perm l).length_eq
/-! ### the document's sort: insertion -/
def ins (x : ByteArray) : List ByteArray → List ByteArray
  | [] => [x]
  | y :: r => if D x < D y then x :: y :: r else y :: ins x r
theorem ins_perm (x : ByteArray) : ∀ l, (ins x l).Perm (x :: l)
  | [] => List.Perm.refl _
  | y :: r => by
    unfold ins
    split
    · exact List.Perm.refl _
    · exact ((ins_perm x r).cons y).trans (List.Perm.swap x y r)
theorem ins_len (x : ByteArray) (l : List ByteArray) : (ins x l).length = l.length + 1 := (ins_perm x l).length_eq
theorem ins_sorted (x : ByteArray) : ∀ l : List ByteArray, (l.map D).Pairwise (fun x y => x ≤ y) → ((ins x l).map D).Pairwise (fun x y => x ≤ y)
  | [], _ => by simp [ins]
  | y :: r, h => by
    rw [List.map_cons, List.pairwise_cons] at h
    unfold ins
    split
    · rename_i hlt
      rw [List.map_cons, List.map_cons, List.pairwise_cons, List.pairwise_cons]
      have hxy : D x ≤ D y := List.le_of_lt hlt
      refine ⟨fun z hz => ?_, h⟩
      rcases List.mem_cons.1 hz with rfl | hz
      · exact hxy
      · exact List.le_trans hxy (h.1 z hz)
    · rename_i hlt
      rw [List.map_cons, List.pairwise_cons]
      refine ⟨fun z hz => ?_, ins_sorted x r h.2⟩
      obtain ⟨q, hq, rfl⟩ := List.mem_map.1 hz
      rcases List.mem_cons.1 ((ins_perm x r).mem_iff.1 hq) with rfl | hq
      · exact List.not_lt.1 hlt
      · exact h.1 _ (List.mem_map_of_mem hq)
def refSort (l acc : List ByteArray) : List ByteArray := l.foldl (fun o x => ins x o) acc
theorem refSort_perm : ∀ (l acc : List ByteArray), (refSort l acc).Perm (acc ++ l)
  | [], acc => by rw [List.append_nil]; exact List.Perm.refl _
  | x :: r, acc => by
    have h := refSort_perm r (ins x acc)
    show (refSort r (ins x acc)).Perm _
    refine h.trans (((ins_perm x acc).append_right r).trans ?_)
    exact List.perm_middle.symm
theorem refSort_sorted : ∀ (l acc : List ByteArray), (acc.map D).Pairwise (fun x y => x ≤ y) → ((refSort l acc).map D).Pairwise (fun x y => x ≤ y)
  | [], acc, h => h
  | x :: r, acc, h => refSort_sorted r (ins x acc) (ins_sorted x acc h)
theorem refSort_eq (l : List ByteArray) : refSort l [] = sortT l := sortT_uniq (refSort_perm l []) (refSort_sorted l [] (by simp))
end Go.Proofs.YthcooheghekplaaDoor.Q
