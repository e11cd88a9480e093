/- SpaceOrphans, plain: an entry that is taken out makes room for its inode's orphan. No program. -/
import Derived.Test.YtgjpbiogkjiliaaA5
import Derived.Test.YtgjpbiogkjiliaaQ9
namespace Go.Proofs.Ytgjpbiogkjiliaa.Q
open Go.RowKit Go.Maps Go.Proofs.YtgjpbiogkjiliaaW.PrintWords Go.Proofs.YtgjpbiogkjiliaaW.PrintLast Go.Proofs.YtgjpbiogkjiliaaW.PrintMore
set_option linter.unusedVariables false
set_option linter.unusedSimpArgs false
def pk (k1 k2 : ByteArray) (x : S37) : Bool := !decide (x.f0.toList = k1.toList) && !decide (x.f0.toList = k2.toList)
theorem mem_inS {L : List S37} {x y : S37} (h : y ∈ inS L x) : y ∈ L ∨ y = x := by
  unfold inS at h
  rcases List.mem_append.1 h with h | h
  · exact .inl ((List.mem_filter.1 h).1)
  · split at h
    · cases h
    · simp at h
      exact .inr h
theorem mem_doneS : ∀ (g : List S37) {L : List S37} {y : S37}, y ∈ doneS L g → y ∈ L ∨ y ∈ g
  | [], L, y, h => .inl h
  | x :: g, L, y, h => by
    have h1 : y ∈ doneS (inS L x) g := h
    rcases mem_doneS g h1 with h | h
    · rcases mem_inS h with h | h
      · exact .inl h
      · exact .inr (by simp [h])
    · exact .inr (by simp [h])
theorem doneS_snoc (L g : List S37) (x : S37) : doneS L (g ++ [x]) = inS (doneS L g) x := by unfold doneS; rw [List.foldl_append]; rfl
theorem inS_fresh {A : List S37} {x : S37} (h : ∀ y ∈ A, ¬ y.f0.toList = x.f0.toList) : inS A x = A ++ if x.f2 = true then [] else [x] := by
  unfold inS
  rw [List.filter_eq_self.2 (fun y hy => by simpa using h y hy)]
theorem sat_small {n : Nat} (h : n ≤ 4611686018427387904) : sat n = n := by unfold sat; rw [if_pos h]
theorem orph_change (F : List S37) (k1 v1 k2 : ByteArray) (hF : F.length ≤ 1048576) (hs : ∀ x ∈ F, x.f0.size ≤ 1048576 ∧ x.f1.size ≤ 1048576) (hp : ∀ x ∈ F, pk k1 k2 x = true) (h1 : k1.size ≤ 100) (h1' : 4 ≤ k1.size) (hv : v1.size = 3) (h2 : k2.size = 5) :
    ∃ a b : Int, space_Change.f (F ++ [⟨k1, v1, false⟩]) [⟨k1, ⟨#[]⟩, true⟩, ⟨k2, ⟨#[]⟩, false⟩] = some (a, b) ∧ b < a := by
  have sF : ∀ x ∈ F, Small x := fun x hx => by have := hs x hx; unfold Small big; omega
  have e0 : (⟨#[]⟩ : ByteArray).size = 0 := rfl
  have sE : Small ⟨k1, v1, false⟩ := by unfold Small big; simp only; omega
  have sG : ∀ x ∈ [(⟨k1, ⟨#[]⟩, true⟩ : S37), ⟨k2, ⟨#[]⟩, false⟩], Small x := by
    intro x hx
    simp at hx
    rcases hx with rfl | rfl <;> (unfold Small big; simp only; omega)
  obtain ⟨A, hA⟩ : ∃ A, doneS [] F = A := ⟨_, rfl⟩
  have hAF : ∀ y ∈ A, y ∈ F := fun y hy => by
    rw [← hA] at hy
    rcases mem_doneS F hy with h | h
    · cases h
    · exact h
  have hAk : ∀ y ∈ A, ¬ y.f0.toList = k1.toList ∧ ¬ y.f0.toList = k2.toList := fun y hy => by
    have := hp y (hAF y hy)
    unfold pk at this
    simpa using this
  have hAl : A.length ≤ 1048576 := by
    have := doneS_len F []
    rw [hA] at this
    simp at this
    omega
  have d1 : doneS [] (F ++ [⟨k1, v1, false⟩]) = A ++ [⟨k1, v1, false⟩] := by
    rw [doneS_snoc, hA, inS_fresh (fun y hy => (hAk y hy).1)]
    rfl
  have d2 : doneS (doneS [] (F ++ [⟨k1, v1, false⟩])) [⟨k1, ⟨#[]⟩, true⟩, ⟨k2, ⟨#[]⟩, false⟩] = A ++ [⟨k2, ⟨#[]⟩, false⟩] := by
    rw [d1]
    have i1 : inS (A ++ [⟨k1, v1, false⟩]) ⟨k1, ⟨#[]⟩, true⟩ = A := by
      unfold inS
      rw [List.filter_append, List.filter_eq_self.2 (fun y hy => by simpa using (hAk y hy).1)]
      simp
    show inS (inS (A ++ [⟨k1, v1, false⟩]) ⟨k1, ⟨#[]⟩, true⟩) ⟨k2, ⟨#[]⟩, false⟩ = _
    rw [i1, inS_fresh (fun y hy => (hAk y hy).2)]
    rfl
  have L1 := like_done (F ++ [⟨k1, v1, false⟩]) like_nil
  have L2 := like_done [⟨k1, ⟨#[]⟩, true⟩, ⟨k2, ⟨#[]⟩, false⟩] L1
  have c1 := like_sum L1
  have c2 := like_sum L2
  rw [d1, nodesSum_append] at c1
  rw [d2, nodesSum_append] at c2
  have hsum := sum_small A (fun x hx => hs x (hAF x hx))
  have q1 : nodesSum [(⟨k1, v1, false⟩ : S37)] = 64 + 2 * k1.size + 3 := by
    simp only [nodesSum, List.map_cons, List.map_nil, List.sum_cons, List.sum_nil, costS, costOf]
    rw [if_neg (by simp)]
    simp only [Array.length_toList]
    have : k1.data.size = k1.size := rfl
    have : v1.data.size = v1.size := rfl
    omega
  have q2 : nodesSum [(⟨k2, ⟨#[]⟩, false⟩ : S37)] = 74 := by
    simp only [nodesSum, List.map_cons, List.map_nil, List.sum_cons, List.sum_nil, costS, costOf]
    rw [if_neg (by simp)]
    simp only [Array.length_toList]
    have : k2.data.size = k2.size := rfl
    simp
    omega
  have hf : space_Change.f (F ++ [⟨k1, v1, false⟩]) [⟨k1, ⟨#[]⟩, true⟩, ⟨k2, ⟨#[]⟩, false⟩] = some (sat (costs (ents (doneD (.map []) (F ++ [⟨k1, v1, false⟩])))), sat (costs (ents (doneD (doneD (.map []) (F ++ [⟨k1, v1, false⟩])) [⟨k1, ⟨#[]⟩, true⟩, ⟨k2, ⟨#[]⟩, false⟩])))) := by
    unfold space_Change.f
    rw [if_pos]
    refine ⟨fun x hx => ?_, sG, by simp; unfold big; omega, by simp [big]⟩
    rcases List.mem_append.1 hx with hx | hx
    · exact sF x hx
    · simp at hx
      rw [hx]
      exact sE
  refine ⟨_, _, hf, ?_⟩
  rw [c1, c2, q1, q2, sat_small (by omega), sat_small (by omega)]
  omega
theorem orph_l0 (l : List S37) (k1 v1 k2 : ByteArray) (hl : l.length ≤ 1048576) (hs : ∀ x ∈ l, x.f0.size ≤ 1048576 ∧ x.f1.size ≤ 1048576) (h1 : k1.size ≤ 100) (h1' : 4 ≤ k1.size) (hv : v1.size = 3) (h2 : k2.size = 5) : ∀ (d j k : Nat), j + d = l.length → d < k →
    pumicelaw16_SpaceOrphans.l0 k l ((l.take j).filter (pk k1 k2)) (j : Int) k1 v1 false k2 ⟨#[]⟩ false = some true := by
  intro d
  induction d with
  | zero =>
    intro j k hj hk
    obtain ⟨k, rfl⟩ : ∃ m, k = m + 1 := ⟨k - 1, by omega⟩
    rw [List.take_of_length_le (by omega)]
    have hfl : (l.filter (pk k1 k2)).length ≤ l.length := List.length_filter_le _ _
    obtain ⟨a, b, hc, hab⟩ := orph_change (l.filter (pk k1 k2)) k1 v1 k2 (by omega) (fun x hx => hs x ((List.mem_filter.1 hx).1)) (fun x hx => (List.mem_filter.1 hx).2) h1 h1' hv h2
    have hr : space_Room.f (l.filter (pk k1 k2) ++ [⟨k1, v1, false⟩]) [⟨k1, ⟨#[]⟩, true⟩, ⟨k2, ⟨#[]⟩, false⟩] 0 = some 0 := by
      unfold space_Room.f
      rw [hc]
      simp only [Option.bind_some]
      split
      · rw [if_neg (by omega)]
      · rfl
    generalize l.filter (pk k1 k2) = F at *
    simp only [pumicelaw16_SpaceOrphans.l0]
    rw [if_neg (by omega), if_pos (by omega)]
    simp only [Option.bind_some]
    rw [hc]
    simp only [Option.bind_some]
    rw [if_pos hab, hr]
    simp only [Option.bind_some]
    rw [if_pos trivial, alive_true]
    rfl
  | succ d ih =>
    intro j k hj hk
    obtain ⟨k, rfl⟩ : ∃ m, k = m + 1 := ⟨k - 1, by omega⟩
    have hlt : j < l.length := by omega
    have hx : l[j]? = some l[j] := List.getElem?_eq_getElem hlt
    have ih2 := ih (j + 1) k (by omega) (by omega)
    rw [List.take_add_one, hx] at ih2
    simp only [Option.toList, List.filter_append] at ih2
    have hfl : ((l.take j).filter (pk k1 k2)).length ≤ 1048576 := Nat.le_trans (List.length_filter_le _ _) (Nat.le_trans (List.length_take_le _ _) (by omega))
    generalize (l.take j).filter (pk k1 k2) = acc at *
    simp only [pumicelaw16_SpaceOrphans.l0]
    rw [if_pos (by omega), if_pos (by omega), rd_at hlt, wrap_next hlt (by unfold big; omega)]
    by_cases c1 : (l[j]).f0.toList = k1.toList
    · rw [if_pos c1]
      have : pk k1 k2 l[j] = false := by unfold pk; simp [c1]
      rw [List.filter_cons_of_neg (by rw [this]; simp), List.filter_nil, List.append_nil] at ih2
      exact ih2
    · rw [if_neg c1]
      by_cases c2 : (l[j]).f0.toList = k2.toList
      · rw [if_pos c2]
        have : pk k1 k2 l[j] = false := by unfold pk; simp [c2]
        rw [List.filter_cons_of_neg (by rw [this]; simp), List.filter_nil, List.append_nil] at ih2
        exact ih2
      · rw [if_neg c2, if_pos (by omega)]
        have : pk k1 k2 l[j] = true := by unfold pk; simp [c1, c2]
        rw [List.filter_cons_of_pos (by rw [this]), List.filter_nil] at ih2
        exact ih2
theorem two_size (a : Int) : ∃ t, node_two.f a = some t ∧ t.size = 2 := ⟨_, rfl, rfl⟩
theorem key_size (a b : Int) : ∃ t, node_key.f a b = some t ∧ t.size = 3 := by
  obtain ⟨t, ht, hs⟩ := two_size a
  unfold node_key.f
  rw [ht]
  simp only [Option.bind_some]
  rw [if_pos (by rw [strOfNums_size]; simp; omega)]
  exact ⟨_, rfl, by rw [ByteArray.size_append, strOfNums_size, hs]; rfl⟩
theorem ekey_size (a : Int) (n : ByteArray) (h : n.size ≤ 1000) : ∃ t, node_EntryKey.f a n = some t ∧ t.size = 3 + n.size := by
  obtain ⟨t, ht, hs⟩ := key_size a 2
  unfold node_EntryKey.f
  rw [ht]
  simp only [Option.bind_some]
  rw [if_pos (by omega)]
  exact ⟨_, rfl, by rw [ByteArray.size_append, hs]⟩
theorem okey_size (a : Int) : ∃ t, node_OrphanKey.f a = some t ∧ t.size = 5 := by
  obtain ⟨t, ht, hs⟩ := two_size a
  unfold node_OrphanKey.f
  rw [ht]
  simp only [Option.bind_some]
  rw [if_pos (by omega)]
  exact ⟨_, rfl, by rw [ByteArray.size_append, hs]; rfl⟩
theorem orph_j0 (k : Nat) (l : List S37) (k1 v1 k2 v2 : ByteArray) (g1 g2 : Bool) : pumicelaw16_SpaceOrphans.j0 (k + 1) l true k1 v1 g1 k2 v2 g2 = some true := by
  simp only [pumicelaw16_SpaceOrphans.j0]
  rw [if_pos trivial, alive_true]
  rfl
theorem orph_some (a : Int) : ∃ t, node_Orphan.f a = some t ∧ (goodIno_ a = true → t.1.size = 5 ∧ t = (t.1, ⟨#[]⟩, false, 0)) := by
  unfold node_Orphan.f
  rw [goodIno_f a _ rfl]
  simp only [Option.bind_some]
  obtain ⟨t, ht, hs⟩ := okey_size a
  by_cases h : goodIno_ a = true
  · have h' : (decide (1 ≤ a) && decide (a ≤ 4096)) = true := h
    rw [if_pos h', ht]
    simp only [Option.bind_some]
    exact ⟨_, rfl, fun _ => ⟨hs, rfl⟩⟩
  · have h' : ¬ (decide (1 ≤ a) && decide (a ≤ 4096)) = true := h
    rw [if_neg h']
    exact ⟨_, rfl, fun h2 => (h h2).elim⟩
theorem orph_k (k : Nat) (hk : 1048580 ≤ k) (l : List S37) (dir ino : Int) (n : ByteArray) (kd : Int) (hl : l.length ≤ 1048576) (hs : ∀ x ∈ l, x.f0.size ≤ 1048576 ∧ x.f1.size ≤ 1048576) (hn : n.size ≤ 1048576) : pumicelaw16_SpaceOrphans.f (k + 1) l dir ino n kd = some true := by
  obtain ⟨t, ht, hto⟩ := orph_some ino
  unfold pumicelaw16_SpaceOrphans.f
  rw [ht]
  obtain ⟨e, he⟩ : ∃ e, names_Right.f n = some e := by unfold names_Right.f; rw [if_pos (by omega)]; exact ⟨_, rfl⟩
  by_cases hg : (goodIno_ dir && (e == 0) && goodIno_ ino && goodKind_ kd) = true
  · have hg2 := hg
    simp only [Bool.and_eq_true, beq_iff_eq] at hg2
    obtain ⟨⟨⟨_, he0⟩, hio⟩, _⟩ := hg2
    obtain ⟨hsz, hte⟩ := hto hio
    have hnn : n.toList ≠ [] ∧ n.size ≤ 24 := by
      subst he0
      unfold names_Right.f at he
      rw [if_pos (by omega)] at he
      have he := Option.some.inj he
      constructor
      · intro h
        rw [if_pos h] at he
        cases he
      · split at he
        · cases he
        · split at he
          · cases he
          · split at he
            · cases he
            · omega
    have hn1 : 1 ≤ n.size := by
      have h0 := hnn.1
      rw [Lib.toList_data] at h0
      have : n.data.toList.length = n.size := by simp
      cases hq : n.data.toList with
      | nil => exact (h0 hq).elim
      | cons a b => rw [hq] at this; simp at this; omega
    obtain ⟨k1, hk1, hks⟩ := ekey_size dir n (by omega)
    have hE : node_Entry.f dir n ino kd = some (k1, strOfNums (leBytes ino 2 ++ leBytes kd 1), false, 0) := by
      unfold node_Entry.f
      rw [he]
      simp only [Option.bind_some]
      rw [if_pos hg, hk1]
      rfl
    have hv : (strOfNums (leBytes ino 2 ++ leBytes kd 1)).size = 3 := by rw [strOfNums_size]; simp [leBytes]
    rw [hE]
    simp only [Option.bind_some]
    rw [if_pos trivial, hte]
    generalize strOfNums (leBytes ino 2 ++ leBytes kd 1) = v1 at *
    have h0 := orph_l0 l k1 v1 t.1 hl hs (by omega) (by omega) hv hsz l.length 0 k (by omega) (by omega)
    simp only [List.take_zero, List.filter_nil] at h0
    simp only [pumicelaw16_SpaceOrphans.j0]
    rw [if_neg (by simp)]
    exact h0
  · have hE : node_Entry.f dir n ino kd = some (⟨#[]⟩, ⟨#[]⟩, false, 22) := by
      unfold node_Entry.f
      rw [he]
      simp only [Option.bind_some]
      rw [if_neg hg]
    rw [hE]
    simp only [Option.bind_some]
    rw [if_neg (by decide)]
    exact orph_j0 k l _ _ _ _ _ _
theorem SpaceOrphans_pure (l : List S37) (dir ino : Int) (n : ByteArray) (kd : Int) (hl : l.length ≤ 1048576) (hs : ∀ x ∈ l, x.f0.size ≤ 1048576 ∧ x.f1.size ≤ 1048576) (hn : n.size ≤ 1048576) : ∃ k, pumicelaw16_SpaceOrphans.f k l dir ino n kd = some true := ⟨_, orph_k 1048580 (Nat.le_refl _) l dir ino n kd hl hs hn⟩
end Go.Proofs.Ytgjpbiogkjiliaa.Q
