/- HandlesPlays: its contract. -/
import Derived.Test.YtgjajdejjiiocaaG4
namespace Go.Proofs.Ytgjajdejjiiocaa.Q
open Go.RowKit Go.Proofs.YtgjajdejjiiocaaW.PrintWords Go.Proofs.YtgjajdejjiiocaaW.PrintLast Go.Proofs.Ytgjajdejjiiocaa.Sep
set_option linter.unusedVariables false
set_option linter.unusedSimpArgs false
def pumicelaw23_HandlesPlays.f (l0 : List S37) : Option Bool := if okL l0 = true then some true else none
theorem pumicelaw23_HandlesPlays.calls (A0 : Option Addr) (c0 : Nat) (l0 : List S37) (r : Bool) (w : World) (hr0 : Kd.C k37 w A0 l0.length l0) (hc0 : l0.length ≤ c0) (h : pumicelaw23_HandlesPlays.f l0 = some r) : Calls Try.prog 4 #[.slice A0 l0.length c0] w fun e w' => e = .returned (.bool r) ∧ Below w.heap.size w w' := by
  unfold pumicelaw23_HandlesPlays.f at h
  split at h
  · obtain rfl := Option.some.inj h
    exact plays_walk A0 c0 l0 w hr0 hc0 hr0.2.1 (by assumption)
  · cases h
theorem HandlesPlays_pure (l0 : List S37) (h : ∀ x ∈ l0, (Lit.int .i64 x.f4).wf = true ∧ (Lit.int .i64 x.f6).wf = true) : pumicelaw23_HandlesPlays.f l0 = some true := by
  unfold pumicelaw23_HandlesPlays.f
  rw [if_pos]
  unfold okL
  rw [List.all_eq_true]
  intro x hx
  obtain ⟨h4, h6⟩ := h x hx
  have q1 : IntKind.i64.min = -9223372036854775808 := rfl
  have q2 : IntKind.i64.max = 9223372036854775807 := rfl
  simp [Lit.wf, q1, q2] at h4 h6
  simp [inI, h4, h6]
end Go.Proofs.Ytgjajdejjiiocaa.Q
