/-
  No cell of these rows narrows 'for every input' (looked for: loops, veiled, ifaces, maps, wideKeys, modest, calm, conditions, laid).
  DERIVED. THE GIVEN ROWS OF THIS SEAT. 7 by the template 'for every input the law returns true; each argument reads behind the call as it read before'; 0 by the template 'total and deterministic' (their statements: YtgjpbiogkjiliaaTotals.lean).
  GIVEN WITH THE SEED: the statements are not yours to turn. If you find one false, say at which input.
  Laid BY PROGRAM, IN A SANDBOX (cutbox-rows.mjs): the forced cells as the released guide's own fill.sh prints them over the translation 6a3c7ca363321b34… (all of the seat's roots in one cut). By AI agents, Wed Nov 11 2026. No macro, syntax, notation, axiom, sorry.
-/
import Derived.Test.YtgjpbiogkjiliaaChecked
import GoSem.Claim
import GoSem.ClaimJoined
import GoSem.ClaimMapViews
import Derived.JoinedTies
import Derived.KernelRfl
namespace Go.Proofs.Ytgjpbiogkjiliaa
/- THE CELL 'sum', in the pinned program and in every row, IS THE sha256 OF THE DUMP (.gsa) THAT YtgjpbiogkjiliaaProg.lean LOADS. Nothing in Lean hashes anything: it is a label: what it is worth is what the hold of that sum in a sandbox is worth. -/
noncomputable def Try.pinned : Pinned := { name := "ytgjpbiogkjiliaa", sum := "6a3c7ca363321b34b3818606505935fae4f159c64e81d2661d66a9d45bf23855", checked := Try.checked }
namespace Rows
def none {H : Type} : Left H := { results := [], args := [] }

/-- 'pumicelaw16.SpaceChips': WHATEVER THE INPUT: true; the input reads as it did. -/
def spaceChipsSpec : ChangeSpec := { name := "spaceChips", fn := fun _ => fun
  | [d] => { results := [.lit (.bool true)], args := [d] }
  | _ => none }
def spaceChipsRow : OpenClaim := { program := "ytgjpbiogkjiliaa", sum := "6a3c7ca363321b34b3818606505935fae4f159c64e81d2661d66a9d45bf23855", func := "pumice/pumicelaw16.SpaceChips", spec := "spaceChips", unfollowed := true, recurses := true, apart := false }
def SpaceChipsSaid : Prop := spaceChipsRow.holds Try.pinned (OpenSpec.ofChange spaceChipsSpec)

/-- ITS FALSE NEIGHBOUR: 'it returns false'. Refute it at one input. -/
def spaceChipsWrong : ChangeSpec := { name := "spaceChips", fn := fun _ => fun
  | [d] => { results := [.lit (.bool false)], args := [d] }
  | _ => none }
def SpaceChipsWrongFalsely : Prop := spaceChipsRow.holds Try.pinned (OpenSpec.ofChange spaceChipsWrong)

/-- 'pumicelaw16.SpaceLeast': WHATEVER THE INPUT: true; the input reads as it did. -/
def spaceLeastSpec : ChangeSpec := { name := "spaceLeast", fn := fun _ => fun
  | [d] => { results := [.lit (.bool true)], args := [d] }
  | _ => none }
def spaceLeastRow : OpenClaim := { program := "ytgjpbiogkjiliaa", sum := "6a3c7ca363321b34b3818606505935fae4f159c64e81d2661d66a9d45bf23855", func := "pumice/pumicelaw16.SpaceLeast", spec := "spaceLeast", unfollowed := true, recurses := true, apart := false }
def SpaceLeastSaid : Prop := spaceLeastRow.holds Try.pinned (OpenSpec.ofChange spaceLeastSpec)

/-- ITS FALSE NEIGHBOUR: 'it returns false'. Refute it at one input. -/
def spaceLeastWrong : ChangeSpec := { name := "spaceLeast", fn := fun _ => fun
  | [d] => { results := [.lit (.bool false)], args := [d] }
  | _ => none }
def SpaceLeastWrongFalsely : Prop := spaceLeastRow.holds Try.pinned (OpenSpec.ofChange spaceLeastWrong)

/-- 'pumicelaw16.SpaceChanges': WHATEVER THE INPUT: true; the input reads as it did. -/
def spaceChangesSpec : ChangeSpec := { name := "spaceChanges", fn := fun _ => fun
  | [d1, d2, d3] => { results := [.lit (.bool true)], args := [d1, d2, d3] }
  | _ => none }
def spaceChangesRow : OpenClaim := { program := "ytgjpbiogkjiliaa", sum := "6a3c7ca363321b34b3818606505935fae4f159c64e81d2661d66a9d45bf23855", func := "pumice/pumicelaw16.SpaceChanges", spec := "spaceChanges", unfollowed := true, recurses := true, apart := false }
def SpaceChangesSaid : Prop := spaceChangesRow.holds Try.pinned (OpenSpec.ofChange spaceChangesSpec)

/-- ITS FALSE NEIGHBOUR: 'it returns false'. Refute it at one input. -/
def spaceChangesWrong : ChangeSpec := { name := "spaceChanges", fn := fun _ => fun
  | [d1, d2, d3] => { results := [.lit (.bool false)], args := [d1, d2, d3] }
  | _ => none }
def SpaceChangesWrongFalsely : Prop := spaceChangesRow.holds Try.pinned (OpenSpec.ofChange spaceChangesWrong)

/-- 'pumicelaw16.SpaceGone': WHATEVER THE INPUT: true; the input reads as it did. -/
def spaceGoneSpec : ChangeSpec := { name := "spaceGone", fn := fun _ => fun
  | [d1, d2, d3] => { results := [.lit (.bool true)], args := [d1, d2, d3] }
  | _ => none }
def spaceGoneRow : OpenClaim := { program := "ytgjpbiogkjiliaa", sum := "6a3c7ca363321b34b3818606505935fae4f159c64e81d2661d66a9d45bf23855", func := "pumice/pumicelaw16.SpaceGone", spec := "spaceGone", unfollowed := true, recurses := true, apart := false }
def SpaceGoneSaid : Prop := spaceGoneRow.holds Try.pinned (OpenSpec.ofChange spaceGoneSpec)

/-- ITS FALSE NEIGHBOUR: 'it returns false'. Refute it at one input. -/
def spaceGoneWrong : ChangeSpec := { name := "spaceGone", fn := fun _ => fun
  | [d1, d2, d3] => { results := [.lit (.bool false)], args := [d1, d2, d3] }
  | _ => none }
def SpaceGoneWrongFalsely : Prop := spaceGoneRow.holds Try.pinned (OpenSpec.ofChange spaceGoneWrong)

/-- 'pumicelaw16.SpaceCosts': WHATEVER THE INPUT: true; the input reads as it did. -/
def spaceCostsSpec : ChangeSpec := { name := "spaceCosts", fn := fun _ => fun
  | [d1, d2, d3, d4] => { results := [.lit (.bool true)], args := [d1, d2, d3, d4] }
  | _ => none }
def spaceCostsRow : OpenClaim := { program := "ytgjpbiogkjiliaa", sum := "6a3c7ca363321b34b3818606505935fae4f159c64e81d2661d66a9d45bf23855", func := "pumice/pumicelaw16.SpaceCosts", spec := "spaceCosts", unfollowed := true, recurses := true, apart := false }
def SpaceCostsSaid : Prop := spaceCostsRow.holds Try.pinned (OpenSpec.ofChange spaceCostsSpec)

/-- ITS FALSE NEIGHBOUR: 'it returns false'. Refute it at one input. -/
def spaceCostsWrong : ChangeSpec := { name := "spaceCosts", fn := fun _ => fun
  | [d1, d2, d3, d4] => { results := [.lit (.bool false)], args := [d1, d2, d3, d4] }
  | _ => none }
def SpaceCostsWrongFalsely : Prop := spaceCostsRow.holds Try.pinned (OpenSpec.ofChange spaceCostsWrong)

/-- 'pumicelaw16.SpaceSums': WHATEVER THE INPUT: true; the input reads as it did. -/
def spaceSumsSpec : ChangeSpec := { name := "spaceSums", fn := fun _ => fun
  | [d1, d2, d3, d4] => { results := [.lit (.bool true)], args := [d1, d2, d3, d4] }
  | _ => none }
def spaceSumsRow : OpenClaim := { program := "ytgjpbiogkjiliaa", sum := "6a3c7ca363321b34b3818606505935fae4f159c64e81d2661d66a9d45bf23855", func := "pumice/pumicelaw16.SpaceSums", spec := "spaceSums", unfollowed := true, recurses := true, apart := false }
def SpaceSumsSaid : Prop := spaceSumsRow.holds Try.pinned (OpenSpec.ofChange spaceSumsSpec)

/-- ITS FALSE NEIGHBOUR: 'it returns false'. Refute it at one input. -/
def spaceSumsWrong : ChangeSpec := { name := "spaceSums", fn := fun _ => fun
  | [d1, d2, d3, d4] => { results := [.lit (.bool false)], args := [d1, d2, d3, d4] }
  | _ => none }
def SpaceSumsWrongFalsely : Prop := spaceSumsRow.holds Try.pinned (OpenSpec.ofChange spaceSumsWrong)

/-- 'pumicelaw16.SpaceOrphans': WHATEVER THE INPUT: true; the input reads as it did. -/
def spaceOrphansSpec : ChangeSpec := { name := "spaceOrphans", fn := fun _ => fun
  | [d1, d2, d3, d4, d5] => { results := [.lit (.bool true)], args := [d1, d2, d3, d4, d5] }
  | _ => none }
def spaceOrphansRow : OpenClaim := { program := "ytgjpbiogkjiliaa", sum := "6a3c7ca363321b34b3818606505935fae4f159c64e81d2661d66a9d45bf23855", func := "pumice/pumicelaw16.SpaceOrphans", spec := "spaceOrphans", inPlace := ["internal/bytealg.IndexByteString", "internal/bytealg.IndexString"], unfollowed := true, recurses := true, named := ["internal/bytealg.MaxLen"], apart := false }
def SpaceOrphansSaid : Prop := spaceOrphansRow.holds Try.pinned (OpenSpec.ofChange spaceOrphansSpec)

/-- ITS FALSE NEIGHBOUR: 'it returns false'. Refute it at one input. -/
def spaceOrphansWrong : ChangeSpec := { name := "spaceOrphans", fn := fun _ => fun
  | [d1, d2, d3, d4, d5] => { results := [.lit (.bool false)], args := [d1, d2, d3, d4, d5] }
  | _ => none }
def SpaceOrphansWrongFalsely : Prop := spaceOrphansRow.holds Try.pinned (OpenSpec.ofChange spaceOrphansWrong)

/- THE SECOND FORM. 'bulk': how many values and letters a reading holds, each counted each time it is reached (what is shared counts as often as it is met; a slice's spare places count too). A statement '..UptoSaid' is the law's where the arguments, and the package variables that the reading takes, are together of bulk at most 1048576: NARROWER than '..Said'. Prove '..Said' where nothing that the law and all that it calls make is longer than what came in: it says more and counts as full. Else prove '..UptoSaid'. A law counts once. -/
mutual
def uptoBulk {H : Type} : DataW H → Nat
  | .lit (.string bytes) => bytes.length + 1
  | .lit _ => 1
  | .nil => 1
  | .ptr d => uptoBulk d + 1
  | .slice elems spare => uptoBulkAll elems + uptoBulkAll spare + 1
  | .agg parts => uptoBulkAll parts + 1
  | .iface _ d => uptoBulk d + 1
  | .map entries => uptoBulkEntries entries + 1
  | .held _ => 1
def uptoBulkAll {H : Type} : List (DataW H) → Nat
  | [] => 0
  | d :: r => uptoBulk d + uptoBulkAll r
def uptoBulkEntries {H : Type} : List (Lit × DataW H) → Nat
  | [] => 0
  | x :: r => uptoBulkEntry x + uptoBulkEntries r
def uptoBulkEntry {H : Type} : Lit × DataW H → Nat
  | (.string bytes, d) => bytes.length + uptoBulk d + 1
  | (_, d) => uptoBulk d + 1
 end
def uptoSmall : (H : Type) → List (DataW H) → Bool := fun _ ds => decide (uptoBulkAll ds ≤ 1048576)
def OpenSpec.upto (s : _root_.Go.ChangeSpec) : _root_.Go.OpenSpec := { _root_.Go.OpenSpec.ofChange s with cond := some uptoSmall }

/-- 'pumicelaw16.SpaceChips', WHERE WHAT IT READS IS OF BULK AT MOST 1048576: true; the input reads as it did. -/
def spaceChipsUptoRow : OpenClaim := { program := "ytgjpbiogkjiliaa", sum := "6a3c7ca363321b34b3818606505935fae4f159c64e81d2661d66a9d45bf23855", func := "pumice/pumicelaw16.SpaceChips", spec := "spaceChips", unfollowed := true, recurses := true, apart := false, narrowed := true }
def SpaceChipsUptoSaid : Prop := spaceChipsUptoRow.holds Try.pinned (OpenSpec.upto spaceChipsSpec)

/-- 'pumicelaw16.SpaceLeast', WHERE WHAT IT READS IS OF BULK AT MOST 1048576: true; the input reads as it did. -/
def spaceLeastUptoRow : OpenClaim := { program := "ytgjpbiogkjiliaa", sum := "6a3c7ca363321b34b3818606505935fae4f159c64e81d2661d66a9d45bf23855", func := "pumice/pumicelaw16.SpaceLeast", spec := "spaceLeast", unfollowed := true, recurses := true, apart := false, narrowed := true }
def SpaceLeastUptoSaid : Prop := spaceLeastUptoRow.holds Try.pinned (OpenSpec.upto spaceLeastSpec)

/-- 'pumicelaw16.SpaceChanges', WHERE WHAT IT READS IS OF BULK AT MOST 1048576: true; the input reads as it did. -/
def spaceChangesUptoRow : OpenClaim := { program := "ytgjpbiogkjiliaa", sum := "6a3c7ca363321b34b3818606505935fae4f159c64e81d2661d66a9d45bf23855", func := "pumice/pumicelaw16.SpaceChanges", spec := "spaceChanges", unfollowed := true, recurses := true, apart := false, narrowed := true }
def SpaceChangesUptoSaid : Prop := spaceChangesUptoRow.holds Try.pinned (OpenSpec.upto spaceChangesSpec)

/-- 'pumicelaw16.SpaceGone', WHERE WHAT IT READS IS OF BULK AT MOST 1048576: true; the input reads as it did. -/
def spaceGoneUptoRow : OpenClaim := { program := "ytgjpbiogkjiliaa", sum := "6a3c7ca363321b34b3818606505935fae4f159c64e81d2661d66a9d45bf23855", func := "pumice/pumicelaw16.SpaceGone", spec := "spaceGone", unfollowed := true, recurses := true, apart := false, narrowed := true }
def SpaceGoneUptoSaid : Prop := spaceGoneUptoRow.holds Try.pinned (OpenSpec.upto spaceGoneSpec)

/-- 'pumicelaw16.SpaceCosts', WHERE WHAT IT READS IS OF BULK AT MOST 1048576: true; the input reads as it did. -/
def spaceCostsUptoRow : OpenClaim := { program := "ytgjpbiogkjiliaa", sum := "6a3c7ca363321b34b3818606505935fae4f159c64e81d2661d66a9d45bf23855", func := "pumice/pumicelaw16.SpaceCosts", spec := "spaceCosts", unfollowed := true, recurses := true, apart := false, narrowed := true }
def SpaceCostsUptoSaid : Prop := spaceCostsUptoRow.holds Try.pinned (OpenSpec.upto spaceCostsSpec)

/-- 'pumicelaw16.SpaceSums', WHERE WHAT IT READS IS OF BULK AT MOST 1048576: true; the input reads as it did. -/
def spaceSumsUptoRow : OpenClaim := { program := "ytgjpbiogkjiliaa", sum := "6a3c7ca363321b34b3818606505935fae4f159c64e81d2661d66a9d45bf23855", func := "pumice/pumicelaw16.SpaceSums", spec := "spaceSums", unfollowed := true, recurses := true, apart := false, narrowed := true }
def SpaceSumsUptoSaid : Prop := spaceSumsUptoRow.holds Try.pinned (OpenSpec.upto spaceSumsSpec)

/-- 'pumicelaw16.SpaceOrphans', WHERE WHAT IT READS IS OF BULK AT MOST 1048576: true; the input reads as it did. -/
def spaceOrphansUptoRow : OpenClaim := { program := "ytgjpbiogkjiliaa", sum := "6a3c7ca363321b34b3818606505935fae4f159c64e81d2661d66a9d45bf23855", func := "pumice/pumicelaw16.SpaceOrphans", spec := "spaceOrphans", inPlace := ["internal/bytealg.IndexByteString", "internal/bytealg.IndexString"], unfollowed := true, recurses := true, named := ["internal/bytealg.MaxLen"], apart := false, narrowed := true }
def SpaceOrphansUptoSaid : Prop := spaceOrphansUptoRow.holds Try.pinned (OpenSpec.upto spaceOrphansSpec)

end Rows
end Go.Proofs.Ytgjpbiogkjiliaa
