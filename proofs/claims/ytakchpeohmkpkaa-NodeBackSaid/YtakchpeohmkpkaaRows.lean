/-
  No cell of these rows narrows 'for every input' (looked for: loops, veiled, ifaces, maps, wideKeys, modest, calm, conditions, laid).
  DERIVED. THE GIVEN ROWS OF THIS SEAT. 7 by the template 'for every input the law returns true; each argument reads behind the call as it read before'; 0 by the template 'total and deterministic' (their statements: YtakchpeohmkpkaaTotals.lean).
  GIVEN WITH THE SEED: the statements are not yours to turn. If you find one false, say at which input.
  Laid BY PROGRAM, IN A SANDBOX (cutbox-rows.mjs): the forced cells as the released guide's own fill.sh prints them over the translation 8238a7425d196180… (all of the seat's roots in one cut). By AI agents, Wed Nov 11 2026. No macro, syntax, notation, axiom, sorry.
-/
import Derived.Test.YtakchpeohmkpkaaChecked
import GoSem.Claim
import GoSem.ClaimJoined
import GoSem.ClaimMapViews
import Derived.JoinedTies
import Derived.KernelRfl
namespace Go.Proofs.Ytakchpeohmkpkaa
/- THE CELL 'sum', in the pinned program and in every row, IS THE sha256 OF THE DUMP (.gsa) THAT YtakchpeohmkpkaaProg.lean LOADS. Nothing in Lean hashes anything: it is a label: what it is worth is what the hold of that sum in a sandbox is worth. -/
noncomputable def Try.pinned : Pinned := { name := "ytakchpeohmkpkaa", sum := "8238a7425d1961801b2ab1d799c5faa15bfde4b8a86e738a377ab224e9345b51", checked := Try.checked }
namespace Rows
def none {H : Type} : Left H := { results := [], args := [] }

/-- 'pumicelaw06.NodeOrder': WHATEVER THE INPUT: true; the input reads as it did. -/
def nodeOrderSpec : ChangeSpec := { name := "nodeOrder", fn := fun _ => fun
  | [d1, d2, d3, d4, d5, d6] => { results := [.lit (.bool true)], args := [d1, d2, d3, d4, d5, d6] }
  | _ => none }
def nodeOrderRow : OpenClaim := { program := "ytakchpeohmkpkaa", sum := "8238a7425d1961801b2ab1d799c5faa15bfde4b8a86e738a377ab224e9345b51", func := "pumice/pumicelaw06.NodeOrder", spec := "nodeOrder", unfollowed := true, recurses := true, apart := false }
def NodeOrderSaid : Prop := nodeOrderRow.holds Try.pinned (OpenSpec.ofChange nodeOrderSpec)

/-- ITS FALSE NEIGHBOUR: 'it returns false'. Refute it at one input. -/
def nodeOrderWrong : ChangeSpec := { name := "nodeOrder", fn := fun _ => fun
  | [d1, d2, d3, d4, d5, d6] => { results := [.lit (.bool false)], args := [d1, d2, d3, d4, d5, d6] }
  | _ => none }
def NodeOrderWrongFalsely : Prop := nodeOrderRow.holds Try.pinned (OpenSpec.ofChange nodeOrderWrong)

/-- 'pumicelaw06.NodePacks': WHATEVER THE INPUT: true; the input reads as it did. -/
def nodePacksSpec : ChangeSpec := { name := "nodePacks", fn := fun _ => fun
  | [d1, d2, d3] => { results := [.lit (.bool true)], args := [d1, d2, d3] }
  | _ => none }
def nodePacksRow : OpenClaim := { program := "ytakchpeohmkpkaa", sum := "8238a7425d1961801b2ab1d799c5faa15bfde4b8a86e738a377ab224e9345b51", func := "pumice/pumicelaw06.NodePacks", spec := "nodePacks", unfollowed := true, recurses := true, apart := false }
def NodePacksSaid : Prop := nodePacksRow.holds Try.pinned (OpenSpec.ofChange nodePacksSpec)

/-- ITS FALSE NEIGHBOUR: 'it returns false'. Refute it at one input. -/
def nodePacksWrong : ChangeSpec := { name := "nodePacks", fn := fun _ => fun
  | [d1, d2, d3] => { results := [.lit (.bool false)], args := [d1, d2, d3] }
  | _ => none }
def NodePacksWrongFalsely : Prop := nodePacksRow.holds Try.pinned (OpenSpec.ofChange nodePacksWrong)

/-- 'pumicelaw06.NodeUnpacks': WHATEVER THE INPUT: true; the input reads as it did. -/
def nodeUnpacksSpec : ChangeSpec := { name := "nodeUnpacks", fn := fun _ => fun
  | [d] => { results := [.lit (.bool true)], args := [d] }
  | _ => none }
def nodeUnpacksRow : OpenClaim := { program := "ytakchpeohmkpkaa", sum := "8238a7425d1961801b2ab1d799c5faa15bfde4b8a86e738a377ab224e9345b51", func := "pumice/pumicelaw06.NodeUnpacks", spec := "nodeUnpacks", unfollowed := true, recurses := true, apart := false }
def NodeUnpacksSaid : Prop := nodeUnpacksRow.holds Try.pinned (OpenSpec.ofChange nodeUnpacksSpec)

/-- ITS FALSE NEIGHBOUR: 'it returns false'. Refute it at one input. -/
def nodeUnpacksWrong : ChangeSpec := { name := "nodeUnpacks", fn := fun _ => fun
  | [d] => { results := [.lit (.bool false)], args := [d] }
  | _ => none }
def NodeUnpacksWrongFalsely : Prop := nodeUnpacksRow.holds Try.pinned (OpenSpec.ofChange nodeUnpacksWrong)

/-- 'pumicelaw06.NodeUnlike': WHATEVER THE INPUT: true; the input reads as it did. -/
def nodeUnlikeSpec : ChangeSpec := { name := "nodeUnlike", fn := fun _ => fun
  | [d1, d2, d3] => { results := [.lit (.bool true)], args := [d1, d2, d3] }
  | _ => none }
def nodeUnlikeRow : OpenClaim := { program := "ytakchpeohmkpkaa", sum := "8238a7425d1961801b2ab1d799c5faa15bfde4b8a86e738a377ab224e9345b51", func := "pumice/pumicelaw06.NodeUnlike", spec := "nodeUnlike", inPlace := ["internal/bytealg.IndexByteString", "internal/bytealg.IndexString"], unfollowed := true, recurses := true, named := ["internal/bytealg.MaxLen"], apart := false }
def NodeUnlikeSaid : Prop := nodeUnlikeRow.holds Try.pinned (OpenSpec.ofChange nodeUnlikeSpec)

/-- ITS FALSE NEIGHBOUR: 'it returns false'. Refute it at one input. -/
def nodeUnlikeWrong : ChangeSpec := { name := "nodeUnlike", fn := fun _ => fun
  | [d1, d2, d3] => { results := [.lit (.bool false)], args := [d1, d2, d3] }
  | _ => none }
def NodeUnlikeWrongFalsely : Prop := nodeUnlikeRow.holds Try.pinned (OpenSpec.ofChange nodeUnlikeWrong)

/-- 'pumicelaw06.NodeInodes': WHATEVER THE INPUT: true; the input reads as it did. -/
def nodeInodesSpec : ChangeSpec := { name := "nodeInodes", fn := fun _ => fun
  | [d1, d2] => { results := [.lit (.bool true)], args := [d1, d2] }
  | _ => none }
def nodeInodesRow : OpenClaim := { program := "ytakchpeohmkpkaa", sum := "8238a7425d1961801b2ab1d799c5faa15bfde4b8a86e738a377ab224e9345b51", func := "pumice/pumicelaw06.NodeInodes", spec := "nodeInodes", inPlace := ["internal/bytealg.IndexByteString", "internal/bytealg.IndexString"], unfollowed := true, recurses := true, named := ["internal/bytealg.MaxLen"], apart := false }
def NodeInodesSaid : Prop := nodeInodesRow.holds Try.pinned (OpenSpec.ofChange nodeInodesSpec)

/-- ITS FALSE NEIGHBOUR: 'it returns false'. Refute it at one input. -/
def nodeInodesWrong : ChangeSpec := { name := "nodeInodes", fn := fun _ => fun
  | [d1, d2] => { results := [.lit (.bool false)], args := [d1, d2] }
  | _ => none }
def NodeInodesWrongFalsely : Prop := nodeInodesRow.holds Try.pinned (OpenSpec.ofChange nodeInodesWrong)

/-- 'pumicelaw06.NodeEntries': WHATEVER THE INPUT: true; the input reads as it did. -/
def nodeEntriesSpec : ChangeSpec := { name := "nodeEntries", fn := fun _ => fun
  | [d1, d2, d3, d4, d5] => { results := [.lit (.bool true)], args := [d1, d2, d3, d4, d5] }
  | _ => none }
def nodeEntriesRow : OpenClaim := { program := "ytakchpeohmkpkaa", sum := "8238a7425d1961801b2ab1d799c5faa15bfde4b8a86e738a377ab224e9345b51", func := "pumice/pumicelaw06.NodeEntries", spec := "nodeEntries", inPlace := ["internal/bytealg.IndexByteString", "internal/bytealg.IndexString"], unfollowed := true, recurses := true, named := ["internal/bytealg.MaxLen"], apart := false }
def NodeEntriesSaid : Prop := nodeEntriesRow.holds Try.pinned (OpenSpec.ofChange nodeEntriesSpec)

/-- ITS FALSE NEIGHBOUR: 'it returns false'. Refute it at one input. -/
def nodeEntriesWrong : ChangeSpec := { name := "nodeEntries", fn := fun _ => fun
  | [d1, d2, d3, d4, d5] => { results := [.lit (.bool false)], args := [d1, d2, d3, d4, d5] }
  | _ => none }
def NodeEntriesWrongFalsely : Prop := nodeEntriesRow.holds Try.pinned (OpenSpec.ofChange nodeEntriesWrong)

/-- 'pumicelaw06.NodeBack': WHATEVER THE INPUT: true; the input reads as it did. -/
def nodeBackSpec : ChangeSpec := { name := "nodeBack", fn := fun _ => fun
  | [d1, d2, d3, d4, d5] => { results := [.lit (.bool true)], args := [d1, d2, d3, d4, d5] }
  | _ => none }
def nodeBackRow : OpenClaim := { program := "ytakchpeohmkpkaa", sum := "8238a7425d1961801b2ab1d799c5faa15bfde4b8a86e738a377ab224e9345b51", func := "pumice/pumicelaw06.NodeBack", spec := "nodeBack", inPlace := ["internal/bytealg.IndexByteString", "internal/bytealg.IndexString"], unfollowed := true, recurses := true, named := ["internal/bytealg.MaxLen"], apart := false }
def NodeBackSaid : Prop := nodeBackRow.holds Try.pinned (OpenSpec.ofChange nodeBackSpec)

/-- ITS FALSE NEIGHBOUR: 'it returns false'. Refute it at one input. -/
def nodeBackWrong : ChangeSpec := { name := "nodeBack", fn := fun _ => fun
  | [d1, d2, d3, d4, d5] => { results := [.lit (.bool false)], args := [d1, d2, d3, d4, d5] }
  | _ => none }
def NodeBackWrongFalsely : Prop := nodeBackRow.holds Try.pinned (OpenSpec.ofChange nodeBackWrong)

/- THE SECOND FORM. 'bulk': how many values and letters a reading holds, each counted each time it is reached (what is shared counts as often as it is met; a slice's spare places count too). A statement '..UptoSaid' is the law's where the arguments, and the package variables that the reading takes, are together of bulk at most 1048576: NARROWER than '..Said'. Prove '..Said' where nothing that the law and all that it calls make is longer than what came in: it says more and counts as full. Else prove '..UptoSaid'. A law counts once. -/
mutual
def uptoBulk {H : Type} : DataW H → Nat
  | .lit (.string bytes) => bytes.length + 1
  | .lit _ => 1
  | .nil => 1
  | .ptr d => uptoBulk d + 1
  | .slice elems spare => uptoBulkAll elems + uptoBulkAll spare + 1
  | .agg parts => uptoBulkAll parts + 1
  | .iface _ d => uptoBulk d + 1
  | .map entries => uptoBulkEntries entries + 1
  | .held _ => 1
def uptoBulkAll {H : Type} : List (DataW H) → Nat
  | [] => 0
  | d :: r => uptoBulk d + uptoBulkAll r
def uptoBulkEntries {H : Type} : List (Lit × DataW H) → Nat
  | [] => 0
  | x :: r => uptoBulkEntry x + uptoBulkEntries r
def uptoBulkEntry {H : Type} : Lit × DataW H → Nat
  | (.string bytes, d) => bytes.length + uptoBulk d + 1
  | (_, d) => uptoBulk d + 1
 end
def uptoSmall : (H : Type) → List (DataW H) → Bool := fun _ ds => decide (uptoBulkAll ds ≤ 1048576)
def OpenSpec.upto (s : _root_.Go.ChangeSpec) : _root_.Go.OpenSpec := { _root_.Go.OpenSpec.ofChange s with cond := some uptoSmall }

/-- 'pumicelaw06.NodeOrder', WHERE WHAT IT READS IS OF BULK AT MOST 1048576: true; the input reads as it did. -/
def nodeOrderUptoRow : OpenClaim := { program := "ytakchpeohmkpkaa", sum := "8238a7425d1961801b2ab1d799c5faa15bfde4b8a86e738a377ab224e9345b51", func := "pumice/pumicelaw06.NodeOrder", spec := "nodeOrder", unfollowed := true, recurses := true, apart := false, narrowed := true }
def NodeOrderUptoSaid : Prop := nodeOrderUptoRow.holds Try.pinned (OpenSpec.upto nodeOrderSpec)

/-- 'pumicelaw06.NodePacks', WHERE WHAT IT READS IS OF BULK AT MOST 1048576: true; the input reads as it did. -/
def nodePacksUptoRow : OpenClaim := { program := "ytakchpeohmkpkaa", sum := "8238a7425d1961801b2ab1d799c5faa15bfde4b8a86e738a377ab224e9345b51", func := "pumice/pumicelaw06.NodePacks", spec := "nodePacks", unfollowed := true, recurses := true, apart := false, narrowed := true }
def NodePacksUptoSaid : Prop := nodePacksUptoRow.holds Try.pinned (OpenSpec.upto nodePacksSpec)

/-- 'pumicelaw06.NodeUnpacks', WHERE WHAT IT READS IS OF BULK AT MOST 1048576: true; the input reads as it did. -/
def nodeUnpacksUptoRow : OpenClaim := { program := "ytakchpeohmkpkaa", sum := "8238a7425d1961801b2ab1d799c5faa15bfde4b8a86e738a377ab224e9345b51", func := "pumice/pumicelaw06.NodeUnpacks", spec := "nodeUnpacks", unfollowed := true, recurses := true, apart := false, narrowed := true }
def NodeUnpacksUptoSaid : Prop := nodeUnpacksUptoRow.holds Try.pinned (OpenSpec.upto nodeUnpacksSpec)

/-- 'pumicelaw06.NodeUnlike', WHERE WHAT IT READS IS OF BULK AT MOST 1048576: true; the input reads as it did. -/
def nodeUnlikeUptoRow : OpenClaim := { program := "ytakchpeohmkpkaa", sum := "8238a7425d1961801b2ab1d799c5faa15bfde4b8a86e738a377ab224e9345b51", func := "pumice/pumicelaw06.NodeUnlike", spec := "nodeUnlike", inPlace := ["internal/bytealg.IndexByteString", "internal/bytealg.IndexString"], unfollowed := true, recurses := true, named := ["internal/bytealg.MaxLen"], apart := false, narrowed := true }
def NodeUnlikeUptoSaid : Prop := nodeUnlikeUptoRow.holds Try.pinned (OpenSpec.upto nodeUnlikeSpec)

/-- 'pumicelaw06.NodeInodes', WHERE WHAT IT READS IS OF BULK AT MOST 1048576: true; the input reads as it did. -/
def nodeInodesUptoRow : OpenClaim := { program := "ytakchpeohmkpkaa", sum := "8238a7425d1961801b2ab1d799c5faa15bfde4b8a86e738a377ab224e9345b51", func := "pumice/pumicelaw06.NodeInodes", spec := "nodeInodes", inPlace := ["internal/bytealg.IndexByteString", "internal/bytealg.IndexString"], unfollowed := true, recurses := true, named := ["internal/bytealg.MaxLen"], apart := false, narrowed := true }
def NodeInodesUptoSaid : Prop := nodeInodesUptoRow.holds Try.pinned (OpenSpec.upto nodeInodesSpec)

/-- 'pumicelaw06.NodeEntries', WHERE WHAT IT READS IS OF BULK AT MOST 1048576: true; the input reads as it did. -/
def nodeEntriesUptoRow : OpenClaim := { program := "ytakchpeohmkpkaa", sum := "8238a7425d1961801b2ab1d799c5faa15bfde4b8a86e738a377ab224e9345b51", func := "pumice/pumicelaw06.NodeEntries", spec := "nodeEntries", inPlace := ["internal/bytealg.IndexByteString", "internal/bytealg.IndexString"], unfollowed := true, recurses := true, named := ["internal/bytealg.MaxLen"], apart := false, narrowed := true }
def NodeEntriesUptoSaid : Prop := nodeEntriesUptoRow.holds Try.pinned (OpenSpec.upto nodeEntriesSpec)

/-- 'pumicelaw06.NodeBack', WHERE WHAT IT READS IS OF BULK AT MOST 1048576: true; the input reads as it did. -/
def nodeBackUptoRow : OpenClaim := { program := "ytakchpeohmkpkaa", sum := "8238a7425d1961801b2ab1d799c5faa15bfde4b8a86e738a377ab224e9345b51", func := "pumice/pumicelaw06.NodeBack", spec := "nodeBack", inPlace := ["internal/bytealg.IndexByteString", "internal/bytealg.IndexString"], unfollowed := true, recurses := true, named := ["internal/bytealg.MaxLen"], apart := false, narrowed := true }
def NodeBackUptoSaid : Prop := nodeBackUptoRow.holds Try.pinned (OpenSpec.upto nodeBackSpec)

end Rows
end Go.Proofs.Ytakchpeohmkpkaa
