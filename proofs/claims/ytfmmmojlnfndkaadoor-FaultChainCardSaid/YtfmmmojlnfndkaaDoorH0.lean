/- What the laws of this seat ask of the world: errors.errorType and the table of powers are laid. -/
import Derived.Test.YtfmmmojlnfndkaaDoorE6
import Derived.Lib.LaidTab
import Derived.Lib.ItoaNum
namespace Go.Proofs.YtfmmmojlnfndkaaDoor.As
open Go.RowKit Go.Proofs.YtfmmmojlnfndkaaDoorW.PrintWords Go.Proofs.YtfmmmojlnfndkaaDoorW.PrintLast Go.Extern.Stop Go.Stop Go.Extern
def Laid (w : World) : Prop := w.cell? ⟨0, 0, none⟩ = some (.iface 93 (.agg #[.pointer (some ⟨4, 32, none⟩)])) ∧ Lib.TabIs Tryd.prog w "internal/strconv.uint64pow10" .u64 Lib.pow10Tab
theorem Laid.et {w : World} (h : Laid w) : w.cell? ⟨0, 0, none⟩ = some (.iface 93 (.agg #[.pointer (some ⟨4, 32, none⟩)])) := h.1
theorem cell_below {w w' : World} (hb : Below w.heap.size w w') {a : Addr} {v : Value} (h : w.cell? a = some v) : w'.cell? a = some v := by
  have hl := World.block_lt_of_cell? w a h
  have hk := hb.block a.block hl
  simp only [World.cell?, hk] at h ⊢
  exact h
theorem heap_below {w w' : World} (hb : Below w.heap.size w w') {b : Nat} {o : Obj} (h : w.heap[b]? = some o) : w'.heap[b]? = some o := by
  have hl := (Array.getElem?_eq_some_iff.1 h).1
  rw [hb.block b hl]; exact h
theorem pow10_global : Tryd.prog.globalNamed "internal/strconv.uint64pow10" = some 1 := by kernel_rfl
theorem tab_below {w w' : World} {zs : List Int} (h : Lib.TabIs Tryd.prog w "internal/strconv.uint64pow10" .u64 zs) (hb : Below w.heap.size w w') : Lib.TabIs Tryd.prog w' "internal/strconv.uint64pow10" .u64 zs := by
  unfold Lib.TabIs at h ⊢
  unfold World.var? at h ⊢
  rw [pow10_global, Option.bind_some] at h ⊢
  cases hc : w.heap[1]? with
  | none => rw [hc] at h; cases h
  | some o => rw [hc] at h; rw [heap_below hb hc]; exact h
theorem Laid.on {w w' : World} (h : Laid w) (hb : Below w.heap.size w w') : Laid w' := ⟨cell_below hb h.1, tab_below h.2 hb⟩
end Go.Proofs.YtfmmmojlnfndkaaDoor.As
