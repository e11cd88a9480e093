import Derived.Test.YtfmmmojlnfndkaaDoorE3
import Derived.Test.YtfmmmojlnfndkaaDoorWGuard
namespace Go.Proofs.YtfmmmojlnfndkaaDoor.As
open Go.RowKit Go.Proofs.YtfmmmojlnfndkaaDoorW.PrintWords Go.Proofs.YtfmmmojlnfndkaaDoorW.PrintLast Go.Extern.Stop Go.Stop Go.Extern

set_option maxRecDepth 20000 in
theorem wrapA (op what : ByteArray) (e : Int) (w : World) (he : e ≠ 0) (hg : w.cell? ⟨0, 0, none⟩ = some (.iface 93 (.agg #[.pointer (some ⟨4, 32, none⟩)]))) :
    Calls Tryd.prog 25 #[.string op, .string what, .iface 22 (.int .i64 e)] w fun ev w' => ∃ b, ev = .returned (.iface 40 (.pointer (some ⟨b, 0, none⟩))) ∧ w.heap.size ≤ b ∧ w'.heap[b]? = some (.cells #[.string op, .string what, .iface 22 (.int .i64 e)] 46) ∧ Below w.heap.size w w' := by
  have hA := ofA_calls e w hg
  have h0 : (e == 0) = false := by simpa using he
  clear hg he
  go_enter Tryd.func25, Tryd.ntmps25
  go_wp2_with (first | ((with_reducible refine gate_callee (f := 18) rfl ?_); refine gate_guard (by rfl) ?_; refine goesL_ (some 11) rfl rfl Tryd.func18 (by kernel_rfl) rfl #[.iface 22 (.int .i64 e)] rfl (by (try simp only [List.map_toArray, List.map_cons, List.map_nil]); first | done | rfl) ?_; (with_reducible refine (hA).mono ?_); rintro e' w' ⟨rfl, hb⟩; refine ⟨_, rfl, ?_⟩))
  all_goals (try go_wp2)
  all_goals (try go_ret)
  all_goals (refine ⟨_, rfl, hb.size, heap_new _ _, Below.alloc hb hb.size _⟩)
end Go.Proofs.YtfmmmojlnfndkaaDoor.As
