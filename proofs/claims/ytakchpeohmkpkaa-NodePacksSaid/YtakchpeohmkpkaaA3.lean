/- NodePacks: what is walked, joined with what it computes. -/
import Derived.Test.YtakchpeohmkpkaaG4
import Derived.Test.YtakchpeohmkpkaaA1
namespace Go.Proofs.Ytakchpeohmkpkaa.Q
open Go.RowKit Go.Proofs.YtakchpeohmkpkaaW.PrintWords
set_option linter.unusedVariables false
set_option linter.unusedSimpArgs false
theorem right_same (k v : ByteArray) (g : Bool) : pumiceref06_Right.f k v g = node_Right.f k v g := by
  unfold pumiceref06_Right.f node_Right.f
  by_cases h1 : (k.size : Int) ≥ 1 <;> by_cases h2 : (k.size : Int) ≤ 64 <;> by_cases h3 : (v.size : Int) ≤ 256 <;> cases g <;> by_cases h4 : v.toList = [] <;> simp [h1, h2, h3, h4]
theorem pack_same (k v : ByteArray) (g : Bool) : pumiceref06_Pack.f k v g = node_Pack.f k v g := by
  unfold pumiceref06_Pack.f node_Pack.f
  rw [right_same]
theorem right_some (k v : ByteArray) (g : Bool) : ∃ b, node_Right.f k v g = some b := by
  unfold node_Right.f
  by_cases h1 : (k.size : Int) ≥ 1 <;> by_cases h2 : (k.size : Int) ≤ 64 <;> by_cases h3 : (v.size : Int) ≤ 256 <;> cases g <;> by_cases h4 : v.toList = [] <;> simp [h1, h2, h3, h4]
theorem pack_some (k v : ByteArray) (g : Bool) : ∃ xs e, node_Pack.f k v g = some (xs, e) := by
  obtain ⟨b, hb⟩ := right_some k v g
  unfold node_Pack.f
  rw [hb]
  cases b
  · exact ⟨_, _, rfl⟩
  · exact ⟨_, _, rfl⟩
theorem mark_same (a b : Int) : pumiceref06_Mark.f 9 a b = node_Mark.f a b := by
  unfold pumiceref06_Mark.f node_Mark.f
  by_cases h1 : b < 1
  · rw [if_pos h1, if_pos (Or.inl h1)]
  rw [if_neg h1]
  by_cases h2 : b > 16
  · rw [if_pos h2, if_pos (Or.inr h2)]
  rw [if_neg h2, if_neg (by omega)]
  have hp := rput_val a 8 (by decide)
  simp only [Option.bind_some]
  rw [show ((8 : Nat) : Int) = 8 from rfl] at hp
  rw [hp]
  simp only [Option.bind_some]
  rw [if_pos (by rw [leBytes_length]; decide), if_pos (by rw [List.length_append, leBytes_length]; decide)]
  rfl
theorem mark_some (a b : Int) : ∃ xs e, node_Mark.f a b = some (xs, e) := by
  unfold node_Mark.f
  split
  · exact ⟨_, _, rfl⟩
  · exact ⟨_, _, rfl⟩
theorem size_some (k v : ByteArray) (g : Bool) : ∃ z, node_Size.f k v g = some z ∧ pumiceref06_Size.f k v g = some z := by
  unfold node_Size.f pumiceref06_Size.f
  rw [pack_same]
  obtain ⟨xs, e, h⟩ := pack_some k v g
  rw [h]
  simp only [Option.bind_some]
  split
  · exact ⟨_, rfl, rfl⟩
  · exact ⟨_, rfl, rfl⟩
def pumicelaw06_NodePacks.f (a0_0 a0_1 : ByteArray) (a0_2 : Bool) (a1 a2 : Int) : Option Bool := some true
theorem NodePacks_pure (a0_0 a0_1 : ByteArray) (a0_2 : Bool) (a1 a2 : Int) : pumicelaw06_NodePacks.f a0_0 a0_1 a0_2 a1 a2 = some true := rfl
theorem pumicelaw06_NodePacks.calls (a0_0 a0_1 : ByteArray) (a0_2 : Bool) (a1 a2 : Int) (r : Bool) (w : World) (h : pumicelaw06_NodePacks.f a0_0 a0_1 a0_2 a1 a2 = some r) :
    Calls Try.prog 4 #[.agg #[.string a0_0, .string a0_1, .bool a0_2], .int .u64 a1, .int .i64 a2] w fun e w' => e = .returned (.bool r) ∧ Below w.heap.size w w' := by
  obtain rfl := Option.some.inj h
  obtain ⟨xs, e1, hp⟩ := pack_some a0_0 a0_1 a0_2
  obtain ⟨ms, e2, hm⟩ := mark_some a1 a2
  obtain ⟨b, hb⟩ := right_some a0_0 a0_1 a0_2
  obtain ⟨z, hz1, hz2⟩ := size_some a0_0 a0_1 a0_2
  exact packs_walk _ _ _ _ _ xs ms e1 e2 b z w hp ((pack_same _ _ _).trans hp) hm ((mark_same _ _).trans hm) hb ((right_same _ _ _).trans hb) hz1 hz2 alive_true
end Go.Proofs.Ytakchpeohmkpkaa.Q
