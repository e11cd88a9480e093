import Derived.Test.YtfmmmojlnfndkaaDoorE4
namespace Go.Proofs.YtfmmmojlnfndkaaDoor.As
open Go.RowKit Go.Proofs.YtfmmmojlnfndkaaDoorW.PrintWords Go.Proofs.YtfmmmojlnfndkaaDoorW.PrintLast Go.Extern.Stop Go.Stop Go.Extern

set_option maxRecDepth 20000 in
theorem wrapOK (op what : ByteArray) (w : World) (hg : w.cell? ⟨0, 0, none⟩ = some (.iface 93 (.agg #[.pointer (some ⟨4, 32, none⟩)]))) :
    Calls Tryd.prog 25 #[.string op, .string what, .iface 22 (.int .i64 0)] w fun ev w' => ev = .returned .nilIface ∧ Below w.heap.size w w' := by
  have hA := ofA_calls 0 w hg
  clear hg
  go_enter Tryd.func25, Tryd.ntmps25
  go_wp2_with (first | ((with_reducible refine gate_callee (f := 18) rfl ?_); refine gate_guard (by rfl) ?_; refine goesL_ (some 11) rfl rfl Tryd.func18 (by kernel_rfl) rfl #[.iface 22 (.int .i64 0)] rfl (by (try simp only [List.map_toArray, List.map_cons, List.map_nil]); first | done | rfl) ?_; (with_reducible refine (hA).mono ?_); rintro e' w' ⟨rfl, hb⟩; refine ⟨_, rfl, ?_⟩))
  all_goals (try go_wp2)
  all_goals (try go_ret)
  all_goals (exact ⟨rfl, hb⟩)
set_option maxRecDepth 20000 in
theorem wrapNil (op what : ByteArray) (w : World) :
    Calls Tryd.prog 25 #[.string op, .string what, .nilIface] w fun ev w' => ev = .returned .nilIface ∧ w' = w := by
  go_enter Tryd.func25, Tryd.ntmps25
  go_wp2
  go_ret
  exact ⟨rfl, rfl⟩
theorem conv1 (w : World) (x : UInt8) (t : TypeId) (cap : Nat) : (convert 91 9 (.slice (some ⟨w.heap.size, 0, none⟩) 1 cap)).run Tryd.prog (w.alloc (.cells #[.int .u8 (x.toNat : Int)] t)) = .ok (.string ⟨#[x]⟩) (w.alloc (.cells #[.int .u8 (x.toNat : Int)] t)) := by
  refine run_convert_bytes_back (P := Tryd.prog) _ 91 9 5 ⟨w.heap.size, 0, none⟩ cap [x] Tryd.underlying91 Tryd.underlying5 Tryd.underlying9 fun j hj => ?_
  obtain rfl : j = 0 := by simp at hj; omega
  have h := heap_new w (.cells #[.int .u8 (x.toNat : Int)] t)
  simp only [World.cell?, Addr.add, ↓reduceIte, h]
  rfl
set_option maxRecDepth 20000 in
theorem num2 (w : World) : Calls Tryd.prog 47 #[.int .i64 2] w fun ev w' => ev = .returned (.string ⟨#[50]⟩) ∧ Below w.heap.size w w' := by
  have hc := conv1 w 50
  have h50 : ((50 : UInt8).toNat : Int) = 50 := rfl
  rw [h50] at hc
  go_enter Tryd.func47, Tryd.ntmps47
  go_wp2
  go_ret
  exact ⟨rfl, Below.alloc (Below.refl _ _) (Nat.le_refl _) _⟩
theorem methodError22 (v : Value) (w : World) : (Go.method 253 22 v "Error").run Tryd.prog w = .ok (41, v) w := by kernel_rfl
set_option maxRecDepth 20000 in
theorem text22 (b : Nat) (w : World) (h0 : w.cell? ⟨b, 0, none⟩ = some (.string ⟨#[111, 112, 101, 110]⟩)) (h1 : w.cell? ⟨b, 1, none⟩ = some (.string ⟨#[47, 97]⟩)) (h2 : w.cell? ⟨b, 2, none⟩ = some (.iface 22 (.int .i64 2))) :
    Calls Tryd.prog 22 #[.pointer (some ⟨b, 0, none⟩)] w fun ev w' => ev = .returned (.string ⟨#[111, 112, 101, 110, 32, 47, 97, 32, 58, 32, 112, 117, 109, 105, 99, 101, 32, 101, 114, 114, 111, 114, 32, 50]⟩) ∧ Below w.heap.size w w' := by
  have hc := conv1 w 50
  have h50 : ((50 : UInt8).toNat : Int) = 50 := rfl
  rw [h50] at hc
  have hm := methodError22
  go_enter Tryd.func22, Tryd.ntmps22
  go_wp2
  go_ret
  exact ⟨rfl, Below.alloc (Below.refl _ _) (Nat.le_refl _) _⟩
end Go.Proofs.YtfmmmojlnfndkaaDoor.As
