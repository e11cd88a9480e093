/-
  No cell of these rows narrows 'for every input' (looked for: loops, veiled, ifaces, maps, wideKeys, modest, calm, conditions, laid).
  DERIVED. THE GIVEN ROWS OF THIS SEAT. 4 by the template 'for every input the law returns true; each argument reads behind the call as it read before'; 0 by the template 'total and deterministic' (their statements: YtgjajdejjiiocaaTotals.lean).
  GIVEN WITH THE SEED: the statements are not yours to turn. If you find one false, say at which input.
  Laid BY PROGRAM, IN A SANDBOX (cutbox-rows.mjs): the forced cells as the released guide's own fill.sh prints them over the translation 5096d9c1643cb3e4… (all of the seat's roots in one cut). By AI agents, Wed Nov 11 2026. No macro, syntax, notation, axiom, sorry.
-/
import Derived.Test.YtgjajdejjiiocaaChecked
import GoSem.Claim
import GoSem.ClaimJoined
import GoSem.ClaimMapViews
import Derived.JoinedTies
import Derived.KernelRfl
namespace Go.Proofs.Ytgjajdejjiiocaa
/- THE CELL 'sum', in the pinned program and in every row, IS THE sha256 OF THE DUMP (.gsa) THAT YtgjajdejjiiocaaProg.lean LOADS. Nothing in Lean hashes anything: it is a label: what it is worth is what the hold of that sum in a sandbox is worth. -/
noncomputable def Try.pinned : Pinned := { name := "ytgjajdejjiiocaa", sum := "5096d9c1643cb3e4eb24b072aa5bd52efdb530c73cb52b201e6d89f9cb2084f1", checked := Try.checked }
namespace Rows
def none {H : Type} : Left H := { results := [], args := [] }

/-- 'pumicelaw23.HandlesLeast': WHATEVER THE INPUT: true; the input reads as it did. -/
def handlesLeastSpec : ChangeSpec := { name := "handlesLeast", fn := fun _ => fun
  | [d] => { results := [.lit (.bool true)], args := [d] }
  | _ => none }
def handlesLeastRow : OpenClaim := { program := "ytgjajdejjiiocaa", sum := "5096d9c1643cb3e4eb24b072aa5bd52efdb530c73cb52b201e6d89f9cb2084f1", func := "pumice/pumicelaw23.HandlesLeast", spec := "handlesLeast", unfollowed := true, recurses := true, apart := false }
def HandlesLeastSaid : Prop := handlesLeastRow.holds Try.pinned (OpenSpec.ofChange handlesLeastSpec)

/-- ITS FALSE NEIGHBOUR: 'it returns false'. Refute it at one input. -/
def handlesLeastWrong : ChangeSpec := { name := "handlesLeast", fn := fun _ => fun
  | [d] => { results := [.lit (.bool false)], args := [d] }
  | _ => none }
def HandlesLeastWrongFalsely : Prop := handlesLeastRow.holds Try.pinned (OpenSpec.ofChange handlesLeastWrong)

/-- 'pumicelaw23.HandlesPlays': WHATEVER THE INPUT: true; the input reads as it did. -/
def handlesPlaysSpec : ChangeSpec := { name := "handlesPlays", fn := fun _ => fun
  | [d] => { results := [.lit (.bool true)], args := [d] }
  | _ => none }
def handlesPlaysRow : OpenClaim := { program := "ytgjajdejjiiocaa", sum := "5096d9c1643cb3e4eb24b072aa5bd52efdb530c73cb52b201e6d89f9cb2084f1", func := "pumice/pumicelaw23.HandlesPlays", spec := "handlesPlays", unfollowed := true, recurses := true, apart := false }
def HandlesPlaysSaid : Prop := handlesPlaysRow.holds Try.pinned (OpenSpec.ofChange handlesPlaysSpec)

/-- ITS FALSE NEIGHBOUR: 'it returns false'. Refute it at one input. -/
def handlesPlaysWrong : ChangeSpec := { name := "handlesPlays", fn := fun _ => fun
  | [d] => { results := [.lit (.bool false)], args := [d] }
  | _ => none }
def HandlesPlaysWrongFalsely : Prop := handlesPlaysRow.holds Try.pinned (OpenSpec.ofChange handlesPlaysWrong)

/-- 'pumicelaw23.HandlesApart': WHATEVER THE INPUT: true; the input reads as it did. -/
def handlesApartSpec : ChangeSpec := { name := "handlesApart", fn := fun _ => fun
  | [d1, d2, d3] => { results := [.lit (.bool true)], args := [d1, d2, d3] }
  | _ => none }
def handlesApartRow : OpenClaim := { program := "ytgjajdejjiiocaa", sum := "5096d9c1643cb3e4eb24b072aa5bd52efdb530c73cb52b201e6d89f9cb2084f1", func := "pumice/pumicelaw23.HandlesApart", spec := "handlesApart", unfollowed := true, recurses := true, apart := false }
def HandlesApartSaid : Prop := handlesApartRow.holds Try.pinned (OpenSpec.ofChange handlesApartSpec)

/-- ITS FALSE NEIGHBOUR: 'it returns false'. Refute it at one input. -/
def handlesApartWrong : ChangeSpec := { name := "handlesApart", fn := fun _ => fun
  | [d1, d2, d3] => { results := [.lit (.bool false)], args := [d1, d2, d3] }
  | _ => none }
def HandlesApartWrongFalsely : Prop := handlesApartRow.holds Try.pinned (OpenSpec.ofChange handlesApartWrong)

/-- 'pumicelaw23.HandlesNils': WHATEVER THE INPUT: true; the input reads as it did. -/
def handlesNilsSpec : ChangeSpec := { name := "handlesNils", fn := fun _ => fun
  | [d1, d2] => { results := [.lit (.bool true)], args := [d1, d2] }
  | _ => none }
def handlesNilsRow : OpenClaim := { program := "ytgjajdejjiiocaa", sum := "5096d9c1643cb3e4eb24b072aa5bd52efdb530c73cb52b201e6d89f9cb2084f1", func := "pumice/pumicelaw23.HandlesNils", spec := "handlesNils", unfollowed := true, recurses := true, apart := false }
def HandlesNilsSaid : Prop := handlesNilsRow.holds Try.pinned (OpenSpec.ofChange handlesNilsSpec)

/-- ITS FALSE NEIGHBOUR: 'it returns false'. Refute it at one input. -/
def handlesNilsWrong : ChangeSpec := { name := "handlesNils", fn := fun _ => fun
  | [d1, d2] => { results := [.lit (.bool false)], args := [d1, d2] }
  | _ => none }
def HandlesNilsWrongFalsely : Prop := handlesNilsRow.holds Try.pinned (OpenSpec.ofChange handlesNilsWrong)

/- THE SECOND FORM. 'bulk': how many values and letters a reading holds, each counted each time it is reached (what is shared counts as often as it is met; a slice's spare places count too). A statement '..UptoSaid' is the law's where the arguments, and the package variables that the reading takes, are together of bulk at most 1048576: NARROWER than '..Said'. Prove '..Said' where nothing that the law and all that it calls make is longer than what came in: it says more and counts as full. Else prove '..UptoSaid'. A law counts once. -/
mutual
def uptoBulk {H : Type} : DataW H → Nat
  | .lit (.string bytes) => bytes.length + 1
  | .lit _ => 1
  | .nil => 1
  | .ptr d => uptoBulk d + 1
  | .slice elems spare => uptoBulkAll elems + uptoBulkAll spare + 1
  | .agg parts => uptoBulkAll parts + 1
  | .iface _ d => uptoBulk d + 1
  | .map entries => uptoBulkEntries entries + 1
  | .held _ => 1
def uptoBulkAll {H : Type} : List (DataW H) → Nat
  | [] => 0
  | d :: r => uptoBulk d + uptoBulkAll r
def uptoBulkEntries {H : Type} : List (Lit × DataW H) → Nat
  | [] => 0
  | x :: r => uptoBulkEntry x + uptoBulkEntries r
def uptoBulkEntry {H : Type} : Lit × DataW H → Nat
  | (.string bytes, d) => bytes.length + uptoBulk d + 1
  | (_, d) => uptoBulk d + 1
 end
def uptoSmall : (H : Type) → List (DataW H) → Bool := fun _ ds => decide (uptoBulkAll ds ≤ 1048576)
def OpenSpec.upto (s : _root_.Go.ChangeSpec) : _root_.Go.OpenSpec := { _root_.Go.OpenSpec.ofChange s with cond := some uptoSmall }

/-- 'pumicelaw23.HandlesLeast', WHERE WHAT IT READS IS OF BULK AT MOST 1048576: true; the input reads as it did. -/
def handlesLeastUptoRow : OpenClaim := { program := "ytgjajdejjiiocaa", sum := "5096d9c1643cb3e4eb24b072aa5bd52efdb530c73cb52b201e6d89f9cb2084f1", func := "pumice/pumicelaw23.HandlesLeast", spec := "handlesLeast", unfollowed := true, recurses := true, apart := false, narrowed := true }
def HandlesLeastUptoSaid : Prop := handlesLeastUptoRow.holds Try.pinned (OpenSpec.upto handlesLeastSpec)

/-- 'pumicelaw23.HandlesPlays', WHERE WHAT IT READS IS OF BULK AT MOST 1048576: true; the input reads as it did. -/
def handlesPlaysUptoRow : OpenClaim := { program := "ytgjajdejjiiocaa", sum := "5096d9c1643cb3e4eb24b072aa5bd52efdb530c73cb52b201e6d89f9cb2084f1", func := "pumice/pumicelaw23.HandlesPlays", spec := "handlesPlays", unfollowed := true, recurses := true, apart := false, narrowed := true }
def HandlesPlaysUptoSaid : Prop := handlesPlaysUptoRow.holds Try.pinned (OpenSpec.upto handlesPlaysSpec)

/-- 'pumicelaw23.HandlesApart', WHERE WHAT IT READS IS OF BULK AT MOST 1048576: true; the input reads as it did. -/
def handlesApartUptoRow : OpenClaim := { program := "ytgjajdejjiiocaa", sum := "5096d9c1643cb3e4eb24b072aa5bd52efdb530c73cb52b201e6d89f9cb2084f1", func := "pumice/pumicelaw23.HandlesApart", spec := "handlesApart", unfollowed := true, recurses := true, apart := false, narrowed := true }
def HandlesApartUptoSaid : Prop := handlesApartUptoRow.holds Try.pinned (OpenSpec.upto handlesApartSpec)

/-- 'pumicelaw23.HandlesNils', WHERE WHAT IT READS IS OF BULK AT MOST 1048576: true; the input reads as it did. -/
def handlesNilsUptoRow : OpenClaim := { program := "ytgjajdejjiiocaa", sum := "5096d9c1643cb3e4eb24b072aa5bd52efdb530c73cb52b201e6d89f9cb2084f1", func := "pumice/pumicelaw23.HandlesNils", spec := "handlesNils", unfollowed := true, recurses := true, apart := false, narrowed := true }
def HandlesNilsUptoSaid : Prop := handlesNilsUptoRow.holds Try.pinned (OpenSpec.upto handlesNilsSpec)

end Rows
end Go.Proofs.Ytgjajdejjiiocaa
