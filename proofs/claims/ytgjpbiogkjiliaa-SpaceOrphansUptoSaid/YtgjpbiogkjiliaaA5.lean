/- Plain laws for pumicelaw16: a group that only takes out always has room; what two lists cost together is what each costs. No program. -/
import Derived.Test.YtgjpbiogkjiliaaA4
import Derived.Test.YtgjpbiogkjiliaaQ8
namespace Go.Proofs.Ytgjpbiogkjiliaa.Q
open Go.RowKit Go.Maps Go.Proofs.YtgjpbiogkjiliaaW.PrintWords Go.Proofs.YtgjpbiogkjiliaaW.PrintLast Go.Proofs.YtgjpbiogkjiliaaW.PrintMore

def gone (x : S37) : S37 := ⟨x.f0, x.f1, true⟩

theorem costs_filter (p : Ent → Bool) : ∀ l : List Ent, costs (l.filter p) ≤ costs l
  | [] => Nat.le_refl _
  | x :: r => by
    have := costs_filter p r
    rw [List.filter_cons]
    split
    · rw [costs_cons, costs_cons]; omega
    · rw [costs_cons]; omega

theorem gone_less : ∀ (g : List S37) (D : DataW Unit), IsMap D → (∀ x ∈ g, x.f2 = true) → costs (ents (doneD D g)) ≤ costs (ents D)
  | [], _, _, _ => Nat.le_refl _
  | x :: g, D, hD, hg => by
    obtain ⟨es, rfl⟩ := hD
    have h0 := hg x (by simp)
    have h1 : step (.map es) x = .map (es.filter fun p => !p.1.sameKey (.string x.f0.data.toList)) := by
      unfold step
      rw [if_pos h0]
      rfl
    have h2 := gone_less g _ ⟨_, h1⟩ (fun y hy => hg y (by simp [hy]))
    refine Nat.le_trans h2 ?_
    rw [h1]
    exact costs_filter _ es

theorem sat_mono {a b : Nat} (h : a ≤ b) : sat a ≤ sat b := by unfold sat; split <;> split <;> omega

theorem set_gone (g : List S37) (j : Nat) (h : j < g.length) (x : S37) : ((g.take j).map gone ++ g.drop j).set j x = (g.take j).map gone ++ x :: g.drop (j + 1) := by
  rw [List.set_append, List.length_map, List.length_take, if_neg (by omega), show j - min j g.length = 0 from by omega, List.drop_eq_getElem_cons h]
  rfl

theorem gone_at (g : List S37) (j : Nat) (h : j < g.length) : rd_T37 ((g.take j).map gone ++ g.drop j) (j : Int) = g[j] := by
  have hl : j < ((g.take j).map gone ++ g.drop j).length := by simp; omega
  rw [rd_at hl]
  rw [List.getElem_append_right (by simp; omega)]
  simp only [List.length_map, List.length_take, List.getElem_drop]
  congr 1
  omega

theorem gone_l0 (l g : List S37) (lim : Int) (hl : l.length ≤ big) (hg : g.length ≤ big) (hs : ∀ x ∈ l, Small x) (hs' : ∀ x ∈ g, Small x) : ∀ (d j k : Nat), j + d = g.length → d < k →
    pumicelaw16_SpaceGone.l0 k l lim ((g.take j).map gone ++ g.drop j) (j : Int) = some true := by
  intro d
  induction d with
  | zero =>
    intro j k hj hk
    obtain ⟨k, rfl⟩ : ∃ m, k = m + 1 := ⟨k - 1, by omega⟩
    have e : (g.take j).map gone ++ g.drop j = g.map gone := by rw [List.drop_eq_nil_of_le (by omega), List.take_of_length_le (by omega), List.append_nil]
    rw [e]
    have hL : (g.map gone).length ≤ big := by simpa using hg
    have hc : space_Change.f l (g.map gone) = some (sat (costs (ents (doneD (.map []) l))), sat (costs (ents (doneD (doneD (.map []) l) (g.map gone))))) := by
      unfold space_Change.f
      rw [if_pos]
      refine ⟨hs, fun x hx => ?_, hl, hL⟩
      obtain ⟨y, hy, rfl⟩ := List.mem_map.1 hx
      exact hs' y hy
    have hle := sat_mono (gone_less (g.map gone) (doneD (.map []) l) (map_done isMap_empty l) (fun x hx => by obtain ⟨y, _, rfl⟩ := List.mem_map.1 hx; rfl))
    generalize sat (costs (ents (doneD (.map []) l))) = p at hc hle
    generalize sat (costs (ents (doneD (doneD (.map []) l) (g.map gone)))) = q at hc hle
    simp only [pumicelaw16_SpaceGone.l0]
    rw [if_neg (by simp; omega), hc]
    simp only [Option.bind_some]
    rw [if_pos hle]
    have hr : space_Room.f l (g.map gone) lim = some 0 := by
      unfold space_Room.f
      rw [hc]
      simp only [Option.bind_some]
      split
      · rw [if_neg (by omega)]
      · rfl
    rw [hr, alive_true]
    rfl
  | succ d ih =>
    intro j k hj hk
    obtain ⟨k, rfl⟩ : ∃ m, k = m + 1 := ⟨k - 1, by omega⟩
    have hlt : j < g.length := by omega
    simp only [pumicelaw16_SpaceGone.l0]
    rw [if_pos (by simp; omega), if_pos (by omega), gone_at g j hlt, show ((j : Int)).toNat = j from by omega, set_gone g j hlt, wrap_next hlt hg]
    have e : (g.take j).map gone ++ (⟨g[j].f0, g[j].f1, true⟩ : S37) :: g.drop (j + 1) = (g.take (j + 1)).map gone ++ g.drop (j + 1) := by
      rw [List.take_succ_eq_append_getElem hlt, List.map_append, List.append_assoc]
      rfl
    rw [e]
    exact ih (j + 1) k (by omega) (by omega)

theorem SpaceGone_pure (l g : List S37) (lim : Int) (m0 : l.length * 40 ≤ 140737488351232) (m1 : g.length * 40 ≤ 140737488351232) (e0 : ∀ x ∈ l, x.f0.size ≤ 140737488351232 ∧ x.f1.size ≤ 140737488351232) (e1 : ∀ x ∈ g, x.f0.size ≤ 140737488351232 ∧ x.f1.size ≤ 140737488351232) :
    ∃ k, pumicelaw16_SpaceGone.f k l g lim = some true := by
  refine ⟨g.length + 1, ?_⟩
  have h := gone_l0 l g lim (by unfold big; omega) (by unfold big; omega) (fun x hx => by have := e0 x hx; unfold Small big; omega) (fun x hx => by have := e1 x hx; unfold Small big; omega) g.length 0 (g.length + 1) (by omega) (by omega)
  simp only [List.take_zero, List.map_nil, List.nil_append, List.drop_zero] at h
  unfold pumicelaw16_SpaceGone.f
  simp only [Option.bind_some, List.nil_append, List.length_nil]
  rw [if_pos (by omega)]
  exact h

/-! ### two lists -/
theorem sum_small : ∀ (l : List S37), (∀ x ∈ l, x.f0.size ≤ 1048576 ∧ x.f1.size ≤ 1048576) → nodesSum l ≤ l.length * 4194304
  | [], _ => by simp [nodesSum]
  | x :: r, h => by
    have h1 := sum_small r (fun y hy => h y (by simp [hy]))
    have h2 := h x (by simp)
    have h3 : costS x ≤ 4194304 := by
      unfold costS costOf
      split
      · omega
      · simp only [Array.length_toList, show x.f0.data.size = x.f0.size from rfl, show x.f1.data.size = x.f1.size from rfl]
        omega
    rw [nodesSum_cons, List.length_cons]
    omega

theorem file_mono {a b : Int} (h : a ≤ b) : ∃ p q, space_File.f a = some p ∧ space_File.f b = some q ∧ p ≤ q := by
  refine ⟨_, _, file_val a, file_val b, ?_⟩
  have h1 : mn (mx a 0) 16384 ≤ mn (mx b 0) 16384 := by unfold mn mx; (repeat' split) <;> omega
  omega
theorem file_ge {a : Int} (h0 : 0 ≤ a) (h1 : a ≤ 16384) : ∃ p, space_File.f a = some p ∧ a ≤ p := by
  refine ⟨_, file_val a, ?_⟩
  have h1 : mn (mx a 0) 16384 = a := by unfold mn mx; (repeat' split) <;> omega
  omega

theorem sums_j1 (k : Nat) (a : Int) : pumicelaw16_SpaceSums.j1 (k + 1) a false = some true := by
  simp only [pumicelaw16_SpaceSums.j1]
  rw [if_neg (by simp), alive_true]
  by_cases h0 : a < 0
  · rw [if_pos h0]; rfl
  · rw [if_neg h0]
    by_cases h1 : a > 16384
    · rw [if_pos h1]; rfl
    · rw [if_neg h1]
      obtain ⟨p, hp, hle⟩ := file_ge (a := a) (by omega) (by omega)
      rw [hp]
      simp only [Option.bind_some]
      rw [if_pos hle]
theorem sums_j0 (k : Nat) (a b : Int) : pumicelaw16_SpaceSums.j0 (k + 2) a b false = some true := by
  simp only [pumicelaw16_SpaceSums.j0]
  rw [if_neg (by simp)]
  by_cases h : a ≤ b
  · rw [if_pos h]
    obtain ⟨p, q, hp, hq, hle⟩ := file_mono h
    rw [hp, hq]
    simp only [Option.bind_some]
    rw [show decide (p > q) = false from decide_eq_false (by omega), sums_j1]
  · rw [if_neg h, sums_j1]

theorem sat_self {n : Nat} (h : n ≤ 4611686018427387904) : sat n = (n : Int) := if_pos h
theorem wrap_two {p q : Nat} (h : p + q ≤ 4611686018427387904) : wrap64 ((p : Int) + (q : Int)) = ((p + q : Nat) : Int) := by unfold wrap64; omega
theorem not_neg (p : Nat) : decide ((p : Int) < 0) = false := decide_eq_false (by omega)
theorem under_lim {n : Nat} (h : n ≤ 2097152) : n < 3518437208883 := by omega
theorem len_sum {p n : Nat} (h : p ≤ n * 4194304) (hn : n ≤ 1048576) : p ≤ 4398046511104 := by omega
theorem small_of {l : List S37} (h : ∀ x ∈ l, x.f0.size ≤ 1048576 ∧ x.f1.size ≤ 1048576) : ∀ x ∈ l, Small x := fun x hx => by have := h x hx; unfold Small big; omega
theorem len_big {n : Nat} (h : n ≤ 2097152) : n ≤ big := by unfold big; omega

theorem sums_k (k : Nat) (hk : 3000000 ≤ k) (l m : List S37) (a b : Int) (hl : l.length ≤ 1048576) (hm : m.length ≤ 1048576) (hs : ∀ x ∈ l, x.f0.size ≤ 1048576 ∧ x.f1.size ≤ 1048576) (hs' : ∀ x ∈ m, x.f0.size ≤ 1048576 ∧ x.f1.size ≤ 1048576) :
    pumicelaw16_SpaceSums.f (k + 2) l m a b = some true := by
  have c1 := len_sum (sum_small l hs) hl
  have c2 := len_sum (sum_small m hs') hm
  have hlm : (l ++ m).length ≤ 2097152 := by rw [List.length_append]; omega
  have e1 := nodes_f l (small_of hs) (len_big (by omega)) (k + 2) (by omega)
  have e2 := nodes_f m (small_of hs') (len_big (by omega)) (k + 2) (by omega)
  have e3 := nodes_f (l ++ m) (fun x hx => by rcases List.mem_append.1 hx with h | h; exact small_of hs x h; exact small_of hs' x h) (len_big hlm) (k + 2) (by omega)
  rw [nodesSum_append] at e3
  generalize nodesSum l = p at c1 e1 e3
  generalize nodesSum m = q at c2 e2 e3
  rw [sat_self (by omega)] at e1 e2 e3
  have w := wrap_two (p := p) (q := q) (by omega)
  have hp := not_neg p
  have l1 : ([] : List S37).length + l.length < 3518437208883 := under_lim (by rw [List.length_nil]; omega)
  have l2 : (([] : List S37) ++ l).length + m.length < 3518437208883 := under_lim (by rw [List.nil_append]; omega)
  have hj := sums_j0 k a b
  generalize hk2 : k + 2 = k2 at e1 e2 e3 hj ⊢
  rw [pumicelaw16_SpaceSums.f, Option.bind_some, if_pos l1, Option.bind_some, if_pos l2, List.nil_append, e3, Option.bind_some, e1, Option.bind_some, e2, Option.bind_some, w, if_pos rfl, Option.bind_some, hp]
  exact hj

theorem SpaceSums_pure (l m : List S37) (a b : Int) (hl : l.length ≤ 1048576) (hm : m.length ≤ 1048576) (hs : ∀ x ∈ l, x.f0.size ≤ 1048576 ∧ x.f1.size ≤ 1048576) (hs' : ∀ x ∈ m, x.f0.size ≤ 1048576 ∧ x.f1.size ≤ 1048576) :
    ∃ k, pumicelaw16_SpaceSums.f k l m a b = some true := ⟨_, sums_k 3000000 (Nat.le_refl _) l m a b hl hm hs hs'⟩

end Go.Proofs.Ytgjpbiogkjiliaa.Q
