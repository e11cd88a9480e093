/- Plain laws for pumicelaw16: what any nodes cost ahead of any group and behind it, as a map and as a list. No program. -/
import Derived.Test.YtgjpbiogkjiliaaA3
import Derived.Test.YtgjpbiogkjiliaaQ7
import Derived.Lib.Bytes
namespace Go.Proofs.Ytgjpbiogkjiliaa.Q
open Go.RowKit Go.Maps Go.Proofs.YtgjpbiogkjiliaaW.PrintWords Go.Proofs.YtgjpbiogkjiliaaW.PrintLast Go.Proofs.YtgjpbiogkjiliaaW.PrintMore

/-- One node done to a list, as the document has it. -/
def inS (L : List S37) (x : S37) : List S37 := (L.filter fun y => !decide (y.f0.toList = x.f0.toList)) ++ (if x.f2 = true then [] else [x])
def doneS (L g : List S37) : List S37 := g.foldl inS L

theorem inS_len (L : List S37) (x : S37) : (inS L x).length ≤ L.length + 1 := by
  unfold inS
  have := List.length_filter_le (fun y : S37 => !decide (y.f0.toList = x.f0.toList)) L
  rw [List.length_append]
  split <;> simp <;> omega

theorem in_l0 (L : List S37) (x : S37) (hL : L.length < 3518437208883) : ∀ (d j k : Nat) (acc : List S37), j + d = L.length → d < k → acc.length ≤ j →
    pumiceref16_in.l0 k L acc (j : Int) x.f0 x.f1 x.f2 = some (acc ++ ((L.drop j).filter fun y => !decide (y.f0.toList = x.f0.toList)) ++ (if x.f2 = true then [] else [x])) := by
  intro d
  induction d with
  | zero =>
    intro j k acc hj hk ha
    obtain ⟨k, rfl⟩ : ∃ m, k = m + 1 := ⟨k - 1, by omega⟩
    simp only [pumiceref16_in.l0]
    rw [if_neg (by omega), List.drop_eq_nil_of_le (by omega)]
    by_cases hg : x.f2 = true
    · rw [if_pos hg, if_pos hg]; simp
    · rw [if_neg hg, if_pos (by omega), if_neg hg]; simp
  | succ d ih =>
    intro j k acc hj hk ha
    obtain ⟨k, rfl⟩ : ∃ m, k = m + 1 := ⟨k - 1, by omega⟩
    have hlt : j < L.length := by omega
    simp only [pumiceref16_in.l0]
    rw [if_pos (by omega), if_pos (by omega), rd_at hlt, wrap_next hlt (by unfold big; omega), List.drop_eq_getElem_cons hlt]
    by_cases he : L[j].f0.toList = x.f0.toList
    · rw [if_pos he, ih (j + 1) k acc (by omega) (by omega) (by omega), List.filter_cons_of_neg (by simp [he])]
    · rw [if_neg he, if_pos (by omega), ih (j + 1) k _ (by omega) (by omega) (by simp; omega), List.filter_cons_of_pos (by simp [he])]
      show some (acc ++ [L[j]] ++ _ ++ _) = _
      simp only [List.append_assoc, List.cons_append, List.nil_append]

theorem in_f (L : List S37) (x : S37) (hL : L.length < 3518437208883) (k : Nat) (hk : L.length < k) : pumiceref16_in.f k L x.f0 x.f1 x.f2 = some (inS L x) := by
  have h := in_l0 L x hL L.length 0 k [] (by omega) hk (by simp)
  simpa [pumiceref16_in.f, inS] using h

theorem done_l0 (g : List S37) (hg : g.length ≤ 1048576) : ∀ (d j k : Nat) (L : List S37), j + d = g.length → L.length + 2 * d + 2 ≤ k → L.length + d ≤ 2097152 →
    pumiceref16_done.l0 k L g (j : Int) = some (doneS L (g.drop j)) := by
  intro d
  induction d with
  | zero =>
    intro j k L hj hk hL
    obtain ⟨k, rfl⟩ : ∃ m, k = m + 1 := ⟨k - 1, by omega⟩
    simp only [pumiceref16_done.l0]
    rw [if_neg (by omega), List.drop_eq_nil_of_le (by omega)]
    rfl
  | succ d ih =>
    intro j k L hj hk hL
    obtain ⟨k, rfl⟩ : ∃ m, k = m + 1 := ⟨k - 1, by omega⟩
    have hlt : j < g.length := by omega
    simp only [pumiceref16_done.l0]
    rw [if_pos (by omega), if_pos (by omega), rd_at hlt, wrap_next hlt (by unfold big; omega), List.drop_eq_getElem_cons hlt, in_f L g[j] (by omega) k (by omega)]
    simp only [Option.bind_some]
    have := inS_len L g[j]
    rw [ih (j + 1) k _ (by omega) (by omega) (by omega)]
    rfl

theorem done_f (L g : List S37) (hg : g.length ≤ 1048576) (hL : L.length ≤ 1048576) (k : Nat) (hk : L.length + 2 * g.length + 2 ≤ k) : pumiceref16_done.f k L g = some (doneS L g) := by
  have h := done_l0 g hg g.length 0 k L (by omega) hk (by omega)
  simpa [pumiceref16_done.f] using h

theorem doneS_len : ∀ (g L : List S37), (doneS L g).length ≤ L.length + g.length
  | [], L => by simp [doneS]
  | x :: g, L => by
    have h1 := doneS_len g (inS L x)
    have h2 := inS_len L x
    show (doneS (inS L x) g).length ≤ _
    simp only [List.length_cons]
    omega

/-! ### the map and the list -/
def phi (x : S37) : Ent := (.string x.f0.data.toList, .lit (.string x.f1.data.toList))
theorem cost_phi (x : S37) (h : x.f2 = false) : cost (phi x) = costS x := by simp [phi, cost, costS, h]
def Like (D : DataW Unit) (L : List S37) : Prop := IsMap D ∧ (ents D).Perm (L.map phi) ∧ ∀ x ∈ L, x.f2 = false

theorem toList_iff (a b : ByteArray) : a.toList = b.toList ↔ a.data.toList = b.data.toList := by rw [Lib.toList_data, Lib.toList_data]

theorem filter_phi (L : List S37) (x : S37) : (L.map phi).filter (fun p => !p.1.sameKey (.string x.f0.data.toList)) = (L.filter fun y => !decide (y.f0.toList = x.f0.toList)).map phi := by
  rw [List.filter_map]
  congr 1
  refine List.filter_congr fun y _ => ?_
  simp only [Function.comp, phi, Lit.sameKey]
  congr 1
  rw [Bool.eq_iff_iff]
  simp [toList_iff]

theorem insert_perm (p : Ent) : ∀ l : List Ent, (DataW.insert p l).Perm (p :: l)
  | [] => by simp [DataW.insert]
  | y :: r => by
    unfold DataW.insert
    split
    · exact List.Perm.refl _
    · exact (List.Perm.cons y (insert_perm p r)).trans (List.Perm.swap p y r)

theorem like_step {D : DataW Unit} {L : List S37} (h : Like D L) (x : S37) : Like (step D x) (inS L x) := by
  obtain ⟨⟨es, rfl⟩, hp, hf⟩ := h
  have hpf := hp.filter (fun p => !p.1.sameKey (.string x.f0.data.toList))
  rw [filter_phi] at hpf
  unfold step inS
  by_cases hg : x.f2 = true
  · rw [if_pos hg, if_pos hg]
    refine ⟨⟨_, rfl⟩, ?_, fun y hy => ?_⟩
    · simpa [DataW.del, ents] using hpf
    · simp only [List.append_nil] at hy
      exact hf y (List.mem_filter.1 hy).1
  · rw [if_neg hg, if_neg hg]
    refine ⟨⟨_, rfl⟩, ?_, fun y hy => ?_⟩
    · show (DataW.insert _ _).Perm _
      refine (insert_perm _ _).trans ?_
      rw [List.map_append]
      refine (List.Perm.cons _ hpf).trans ?_
      exact (List.perm_append_singleton (phi x) _).symm
    · rcases List.mem_append.1 hy with h1 | h1
      · exact hf y (List.mem_filter.1 h1).1
      · obtain rfl : y = x := by simpa using h1
        simpa using hg

theorem like_done : ∀ (g : List S37) {D : DataW Unit} {L : List S37}, Like D L → Like (doneD D g) (doneS L g)
  | [], _, _, h => h
  | x :: g, _, _, h => like_done g (like_step h x)

theorem like_sum {D : DataW Unit} {L : List S37} (h : Like D L) : costs (ents D) = nodesSum L := by
  obtain ⟨_, hp, hf⟩ := h
  rw [costs_perm hp]
  unfold costs nodesSum
  rw [List.map_map]
  congr 1
  exact List.map_congr_left fun x hx => cost_phi x (hf x hx)

theorem like_nil : Like (.map []) [] := ⟨⟨_, rfl⟩, by simp [ents], by simp⟩

theorem small_inS {L : List S37} {x : S37} (h : ∀ y ∈ L, Small y) (hx : Small x) : ∀ y ∈ inS L x, Small y := by
  intro y hy
  unfold inS at hy
  rcases List.mem_append.1 hy with h1 | h1
  · exact h y (List.mem_filter.1 h1).1
  · split at h1
    · cases h1
    · obtain rfl : y = x := by simpa using h1
      exact hx
theorem small_doneS : ∀ (g : List S37) {L : List S37}, (∀ y ∈ L, Small y) → (∀ y ∈ g, Small y) → ∀ y ∈ doneS L g, Small y
  | [], _, h, _ => h
  | x :: g, _, h, hg => small_doneS g (small_inS h (hg x (by simp))) (fun y hy => hg y (by simp [hy]))

theorem change_ref (l g : List S37) (hl : l.length ≤ 1048576) (hg : g.length ≤ 1048576) (hs : ∀ x ∈ l, Small x) (hs' : ∀ x ∈ g, Small x) (k : Nat) (hk : 10000000 ≤ k) :
    pumiceref16_Change.f k l g = space_Change.f l g ∧ ∃ r, space_Change.f l g = some r := by
  have h1 := like_done l like_nil
  have h2 := like_done g h1
  have n1 := doneS_len l []
  have n2 := doneS_len g (doneS [] l)
  simp only [List.length_nil, Nat.zero_add] at n1
  have s1 := small_doneS l (L := []) (by simp) hs
  have s2 := small_doneS g s1 hs'
  have e : space_Change.f l g = some (sat (nodesSum (doneS [] l)), sat (nodesSum (doneS (doneS [] l) g))) := by
    unfold space_Change.f
    rw [if_pos ⟨hs, hs', by unfold big; omega, by unfold big; omega⟩, like_sum h1, like_sum h2]
  refine ⟨?_, _, e⟩
  rw [e]
  unfold pumiceref16_Change.f
  rw [done_f [] l hl (by simp) k (by simp; omega)]
  simp only [Option.bind_some]
  rw [ref_f _ s1 (by unfold big; omega) k (by omega)]
  simp only [Option.bind_some]
  rw [done_f _ g hg (by omega) k (by omega)]
  simp only [Option.bind_some]
  rw [ref_f _ s2 (by unfold big; omega) k (by omega)]
  rfl

theorem SpaceChanges_pure (l g : List S37) (lim : Int) (hl : l.length ≤ 1048576) (hg : g.length ≤ 1048576) (hs : ∀ x ∈ l, x.f0.size ≤ 1048576 ∧ x.f1.size ≤ 1048576) (hs' : ∀ x ∈ g, x.f0.size ≤ 1048576 ∧ x.f1.size ≤ 1048576) :
    pumicelaw16_SpaceChanges.f 10000000 l g lim = some true := by
  obtain ⟨h, ⟨⟨a, b⟩, hr⟩⟩ := change_ref l g hl hg (fun x hx => by have := hs x hx; unfold Small big; omega) (fun x hx => by have := hs' x hx; unfold Small big; omega) 10000000 (by omega)
  have hroom : pumiceref16_Room.f 10000000 l g lim = space_Room.f l g lim := by
    unfold pumiceref16_Room.f space_Room.f
    rw [h]
  obtain ⟨v, hv⟩ : ∃ v, space_Room.f l g lim = some v := by
    unfold space_Room.f
    rw [hr]
    simp only [Option.bind_some]
    split
    · split <;> exact ⟨_, rfl⟩
    · exact ⟨_, rfl⟩
  unfold pumicelaw16_SpaceChanges.f
  rw [h, hroom, hr, hv, alive_true]
  simp

end Go.Proofs.Ytgjpbiogkjiliaa.Q
