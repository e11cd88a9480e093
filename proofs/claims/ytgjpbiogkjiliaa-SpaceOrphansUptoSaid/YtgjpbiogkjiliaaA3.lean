/- Plain laws for pumicelaw16: what any node, any list of nodes, any entry and any file costs. No program. -/
import Derived.Test.YtgjpbiogkjiliaaA2
import Derived.Test.YtgjpbiogkjiliaaQ6
namespace Go.Proofs.Ytgjpbiogkjiliaa.Q
open Go.RowKit Go.Proofs.YtgjpbiogkjiliaaW.PrintWords Go.Proofs.YtgjpbiogkjiliaaW.PrintLast Go.Proofs.YtgjpbiogkjiliaaW.PrintMore

def costS (x : S37) : Nat := if x.f2 = true then 0 else costOf x.f0.data.toList x.f1.data.toList
def nodesSum (l : List S37) : Nat := (l.map costS).sum
theorem nodesSum_cons (x : S37) (l : List S37) : nodesSum (x :: l) = costS x + nodesSum l := by simp [nodesSum]
theorem nodesSum_append (l m : List S37) : nodesSum (l ++ m) = nodesSum l + nodesSum m := by simp [nodesSum]

theorem ref_node (a b : ByteArray) : pumiceref16_Node.f a b = space_Node.f a b := rfl

theorem rd_at {l : List S37} {j : Nat} (h : j < l.length) : rd_T37 l (j : Int) = l[j] := by
  unfold rd_T37
  rw [show ((j : Int)).toNat = j from by omega, List.getD_eq_getElem?_getD, List.getElem?_eq_getElem h, Option.getD_some]

theorem wrap_next {j n : Nat} (h : j < n) (hn : n ≤ big) : wrap64 ((j : Int) + 1) = ((j + 1 : Nat) : Int) := by unfold big at hn; unfold wrap64; omega

theorem nodes_l0 (l : List S37) (hs : ∀ x ∈ l, Small x) (hl : l.length ≤ big) : ∀ (d j k s : Nat), j + d = l.length → d < k →
    space_Nodes.l0 k (sat s) l (l.length : Int) (j : Int) = some (sat (s + nodesSum (l.drop j))) := by
  intro d
  induction d with
  | zero =>
    intro j k s hj hk
    obtain ⟨k, rfl⟩ : ∃ m, k = m + 1 := ⟨k - 1, by omega⟩
    simp only [space_Nodes.l0]
    rw [if_neg (by omega), List.drop_eq_nil_of_le (by omega)]
    rfl
  | succ d ih =>
    intro j k s hj hk
    obtain ⟨k, rfl⟩ : ∃ m, k = m + 1 := ⟨k - 1, by omega⟩
    have hlt : j < l.length := by omega
    have hx := hs _ (List.getElem_mem hlt)
    simp only [space_Nodes.l0]
    rw [if_pos (by omega), if_pos (by omega), if_pos (by omega), rd_at hlt, wrap_next hlt hl, List.drop_eq_getElem_cons hlt, nodesSum_cons]
    by_cases hg : l[j].f2 = true
    · rw [if_pos hg, ih (j + 1) k s (by omega) (by omega)]
      simp [costS, hg]
    · rw [if_neg hg, node_cost _ _ hx.1 hx.2]
      simp only [Option.bind_some]
      rw [add_cost _ _ (costOf_pos _ _) (costOf_le (by simpa using hx.1) (by simpa using hx.2))]
      simp only [Option.bind_some]
      rw [ih (j + 1) k _ (by omega) (by omega)]
      simp [costS, hg, Nat.add_assoc]

theorem ref_l0 (l : List S37) (hs : ∀ x ∈ l, Small x) (hl : l.length ≤ big) : ∀ (d j k s : Nat), j + d = l.length → d < k → s ≤ 4611686018427387904 →
    pumiceref16_Nodes.l0 k l (s : Int) (j : Int) = some (sat (s + nodesSum (l.drop j))) := by
  intro d
  induction d with
  | zero =>
    intro j k s hj hk h0
    obtain ⟨k, rfl⟩ : ∃ m, k = m + 1 := ⟨k - 1, by omega⟩
    simp only [pumiceref16_Nodes.l0]
    rw [if_neg (by omega), List.drop_eq_nil_of_le (by omega)]
    simp [nodesSum, sat, h0]
  | succ d ih =>
    intro j k s hj hk h0
    obtain ⟨k, rfl⟩ : ∃ m, k = m + 1 := ⟨k - 1, by omega⟩
    have hlt : j < l.length := by omega
    have hx := hs _ (List.getElem_mem hlt)
    simp only [pumiceref16_Nodes.l0]
    rw [if_pos (by omega), if_pos (by omega), rd_at hlt, wrap_next hlt hl, List.drop_eq_getElem_cons hlt, nodesSum_cons]
    by_cases hg : l[j].f2 = true
    · rw [if_pos hg, ih (j + 1) k s (by omega) (by omega) h0]
      simp [costS, hg]
    · have h1 := costOf_pos l[j].f0.data.toList l[j].f1.data.toList
      have h2 := costOf_le (k := l[j].f0.data.toList) (v := l[j].f1.data.toList) (by simpa using hx.1) (by simpa using hx.2)
      rw [if_neg hg, ref_node, node_cost _ _ hx.1 hx.2]
      simp only [Option.bind_some]
      rw [show wrap64 (4611686018427387904 - (s : Int)) = 4611686018427387904 - (s : Int) from by unfold wrap64; omega]
      have hcs : costS l[j] = costOf l[j].f0.data.toList l[j].f1.data.toList := by simp [costS, hg]
      rw [hcs]
      generalize costOf l[j].f0.data.toList l[j].f1.data.toList = c at h1 h2
      by_cases hc : (c : Int) > 4611686018427387904 - (s : Int)
      · rw [if_pos hc]
        refine congrArg some ?_
        unfold sat
        rw [if_neg (by omega)]
      · rw [if_neg hc, show wrap64 ((s : Int) + (c : Int)) = ((s + c : Nat) : Int) from by unfold wrap64; omega, ih (j + 1) k (s + c) (by omega) (by omega) (by omega), Nat.add_assoc]

theorem nodes_f (l : List S37) (hs : ∀ x ∈ l, Small x) (hl : l.length ≤ big) (k : Nat) (hk : l.length < k) : space_Nodes.f k l = some (sat (nodesSum l)) := by
  have h := nodes_l0 l hs hl l.length 0 k 0 (by omega) hk
  simpa [space_Nodes.f, sat] using h
theorem ref_f (l : List S37) (hs : ∀ x ∈ l, Small x) (hl : l.length ≤ big) (k : Nat) (hk : l.length < k) : pumiceref16_Nodes.f k l = some (sat (nodesSum l)) := by
  have h := ref_l0 l hs hl l.length 0 k 0 (by omega) hk (by omega)
  simpa [pumiceref16_Nodes.f] using h

theorem inode_ref : pumiceref16_Inode.f = some 83 := by decide +kernel

theorem size_two (a : Int) : ∃ t, pumiceref06_two.f a = some t ∧ t.size = 2 := ⟨_, rfl, rfl⟩

theorem bare_2 : space_bare.f 2 = some 70 := by decide +kernel
theorem bare_3 : space_bare.f 3 = some 74 := by decide +kernel
theorem entry_eq (a : ByteArray) (h : a.size ≤ 140737488351232) : pumiceref16_Entry.f a = space_Entry.f a := by
  obtain ⟨t, ht, hz⟩ := size_two 1
  unfold pumiceref16_Entry.f pumiceref06_EntryKey.f space_Entry.f
  rw [ht, bare_2]
  simp only [Option.bind_some]
  have e1 : (t ++ (⟨#[2]⟩ : ByteArray)).size = 3 := by rw [ByteArray.size_append, hz]; rfl
  rw [if_pos (by omega), if_pos (by omega)]
  simp only [Option.bind_some, pumiceref16_Node.f]
  refine congrArg some ?_
  rw [ByteArray.size_append, e1, show (⟨#[49, 50, 51]⟩ : ByteArray).size = 3 from rfl]
  unfold wrap64
  omega

theorem block_74 : ∃ t, pumiceref06_BlockKey.f 1 0 = some t ∧ pumiceref16_Node.f t (⟨#[]⟩ : ByteArray) = some 74 := by
  have h : (pumiceref06_BlockKey.f 1 0).bind (fun t => pumiceref16_Node.f t (⟨#[]⟩ : ByteArray)) = some 74 := by decide +kernel
  exact Option.bind_eq_some_iff.1 h

theorem file_l0 : ∀ (d : Nat) (x n : Int) (k : Nat), 0 ≤ x → x ≤ 16384 → x ≤ 128 * (d : Int) → d < k → 0 ≤ n → n ≤ 1000000000 - 1000000 * (d : Int) → d ≤ 128 →
    pumiceref16_File.l0 k x n = some (n + (x + 127) / 128 * 74 + x) := by
  intro d
  obtain ⟨t, ht, h74⟩ := block_74
  induction d with
  | zero =>
    intro x n k h0 h1 h2 hk h3 h4 h5
    obtain ⟨k, rfl⟩ : ∃ m, k = m + 1 := ⟨k - 1, by omega⟩
    simp only [pumiceref16_File.l0]
    rw [if_neg (by omega)]
    refine congrArg some ?_
    omega
  | succ d ih =>
    intro x n k h0 h1 h2 hk h3 h4 h5
    obtain ⟨k, rfl⟩ : ∃ m, k = m + 1 := ⟨k - 1, by omega⟩
    simp only [pumiceref16_File.l0]
    rw [ht]
    simp only [Option.bind_some]
    rw [h74]
    simp only [Option.bind_some]
    by_cases hx : x > 0
    · rw [if_pos hx]
      by_cases hx2 : x > 128
      · rw [if_pos hx2, show wrap64 (x - 128) = x - 128 from by unfold wrap64; omega, show wrap64 (wrap64 (n + 74) + 128) = n + 202 from by unfold wrap64; omega, ih _ _ k (by omega) (by omega) (by omega) (by omega) (by omega) (by omega) (by omega)]
        refine congrArg some ?_
        omega
      · rw [if_neg hx2, show wrap64 (x - x) = 0 from by unfold wrap64; omega, show wrap64 (wrap64 (n + 74) + x) = n + 74 + x from by unfold wrap64; omega, ih _ _ k (by omega) (by omega) (by omega) (by omega) (by omega) (by omega) (by omega)]
        refine congrArg some ?_
        omega
    · rw [if_neg hx]
      refine congrArg some ?_
      omega

theorem file_val (a : Int) : space_File.f a = some ((mn (mx a 0) 16384 + 127) / 128 * 74 + mn (mx a 0) 16384) := by
  unfold space_File.f
  rw [bare_3]
  simp only [Option.bind_some]
  have h0 : 0 ≤ mn (mx a 0) 16384 ∧ mn (mx a 0) 16384 ≤ 16384 := by unfold mn mx; (repeat' split) <;> omega
  generalize mn (mx a 0) 16384 = y at h0
  refine congrArg some ?_
  unfold wrap64
  omega

theorem file_neg (a : Int) (h : a ≤ 0) (k : Nat) (hk : 0 < k) : pumiceref16_File.l0 k a 0 = some 0 := by
  obtain ⟨k, rfl⟩ : ∃ m, k = m + 1 := ⟨k - 1, by omega⟩
  simp only [pumiceref16_File.l0]
  rw [if_neg (by omega)]

theorem file_ref (a : Int) (k : Nat) (hk : 200 ≤ k) : pumiceref16_File.f k a = space_File.f a := by
  rw [file_val]
  unfold pumiceref16_File.f
  obtain ⟨k, rfl⟩ : ∃ m, k = m + 1 := ⟨k - 1, by omega⟩
  simp only [pumiceref16_File.j0]
  by_cases h : a > 16384
  · rw [if_pos h, file_l0 128 16384 0 k (by omega) (by omega) (by omega) (by omega) (by omega) (by omega) (by omega)]
    have e : mn (mx a 0) 16384 = 16384 := by unfold mn mx; (repeat' split) <;> omega
    rw [e]
    rfl
  · rw [if_neg h]
    by_cases h2 : a ≤ 0
    · rw [file_neg a h2 k (by omega)]
      have e : mn (mx a 0) 16384 = 0 := by unfold mn mx; (repeat' split) <;> omega
      rw [e]
      rfl
    · rw [file_l0 128 a 0 k (by omega) (by omega) (by omega) (by omega) (by omega) (by omega) (by omega)]
      have e : mn (mx a 0) 16384 = a := by unfold mn mx; (repeat' split) <;> omega
      rw [e]
      refine congrArg some ?_
      omega

theorem SpaceCosts_pure (a0 a1 : ByteArray) (l2 : List S37) (a3 : Int) (z0 : a0.size ≤ 140737488351232) (m2 : l2.length * 40 ≤ 140737488351232) (e2 : ∀ x ∈ l2, x.f0.size ≤ 140737488351232 ∧ x.f1.size ≤ 140737488351232) :
    ∃ k, pumicelaw16_SpaceCosts.f k a0 a1 l2 a3 = some true := by
  have hs : ∀ x ∈ l2, Small x := fun x hx => by have := e2 x hx; unfold Small big; omega
  have hl : l2.length ≤ big := by unfold big; omega
  refine ⟨l2.length + 200, ?_⟩
  unfold pumicelaw16_SpaceCosts.f
  rw [nodes_f l2 hs hl _ (by omega), ref_f l2 hs hl _ (by omega), inode_83, inode_ref, entry_eq a0 z0, file_ref a3 _ (by omega), alive_true]
  obtain ⟨v, hv⟩ : ∃ v, space_Node.f a0 a1 = some v := ⟨_, rfl⟩
  obtain ⟨u, hu⟩ : ∃ v, space_Entry.f a0 = some v := by unfold space_Entry.f; rw [bare_2]; exact ⟨_, rfl⟩
  rw [ref_node, hv, hu, file_val]
  simp

end Go.Proofs.Ytgjpbiogkjiliaa.Q
