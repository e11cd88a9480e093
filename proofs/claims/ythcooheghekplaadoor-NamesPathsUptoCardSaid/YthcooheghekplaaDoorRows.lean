/-
  NARROWER THAN 'FOR EVERY INPUT', by the rows' own cells (each row's printed sentence says how): NamesRights: laid · NamesBack: laid · NamesClean: laid · NamesWithin: laid · NamesPaths: laid · NamesSorted: laid · NamesOrders: laid.
  DERIVED. THE GIVEN ROWS OF THIS SEAT. 7 by the template 'for every input the law returns true; each argument reads behind the call as it read before'; 0 by the template 'total and deterministic' (their statements: YthcooheghekplaaDoorTotals.lean).
  GIVEN WITH THE SEED: the statements are not yours to turn. If you find one false, say at which input.
  Laid BY PROGRAM, IN A SANDBOX (cutbox-rows.mjs): the forced cells as the released guide's own fill.sh prints them over the translation 6a587d4d9c237bd9… (all of the seat's roots in one cut). By AI agents, Wed Nov 11 2026. No macro, syntax, notation, axiom, sorry.
-/
import Derived.Test.YthcooheghekplaaDoorChecked
import GoSem.PinnedTables
import GoSem.Claim
import GoSem.ClaimJoined
import GoSem.ClaimMapViews
import Derived.JoinedTies
import Derived.KernelRfl
namespace Go.Proofs.YthcooheghekplaaDoor
/- THE CELL 'sum', in the pinned program and in every row, IS THE sha256 OF THE DUMP (.gsa) THAT YthcooheghekplaaDoorProg.lean LOADS. Nothing in Lean hashes anything: it is a label: what it is worth is what the hold of that sum in a sandbox is worth. -/
noncomputable def Tryd.pinned : Pinned := { name := "ythcooheghekplaadoor", sum := "6a587d4d9c237bd965655f4cddc0b3230390a7ff2ed5fee56f072426a3dbee84", checked := Tryd.checked }
namespace Rows
def none {H : Type} : Left H := { results := [], args := [] }

/- WHAT THE LISTED PACKAGE-LEVEL VARIABLES READ AS WHEN THE CALL BEGINS. Each datum BY PROGRAM (the guide's laid-datum.mjs) off the statement by which the dump's own 'gosem.cut.vars' lays the variable. In a bare row this is a premise. The card (YthcooheghekplaaDoorCards.lean) ties it to the program's text. -/
def laid_unicode_utf8_acceptRanges {H : Type} : DataW H := .agg [.agg [.lit (.int .u8 128), .lit (.int .u8 191)], .agg [.lit (.int .u8 160), .lit (.int .u8 191)], .agg [.lit (.int .u8 128), .lit (.int .u8 159)], .agg [.lit (.int .u8 144), .lit (.int .u8 191)], .agg [.lit (.int .u8 128), .lit (.int .u8 143)], .agg [.lit (.int .u8 0), .lit (.int .u8 0)], .agg [.lit (.int .u8 0), .lit (.int .u8 0)], .agg [.lit (.int .u8 0), .lit (.int .u8 0)], .agg [.lit (.int .u8 0), .lit (.int .u8 0)], .agg [.lit (.int .u8 0), .lit (.int .u8 0)], .agg [.lit (.int .u8 0), .lit (.int .u8 0)], .agg [.lit (.int .u8 0), .lit (.int .u8 0)], .agg [.lit (.int .u8 0), .lit (.int .u8 0)], .agg [.lit (.int .u8 0), .lit (.int .u8 0)], .agg [.lit (.int .u8 0), .lit (.int .u8 0)], .agg [.lit (.int .u8 0), .lit (.int .u8 0)]]
/-- One of Go's own tables, pinned by name: the form's constant. -/
def laid_unicode_utf8_first : DataW Unit := Go.Pinned.utf8First

/-- 'pumicelaw02.NamesRights': WHATEVER THE INPUT: true; the input reads as it did. -/
def namesRightsSpec : ChangeSpec := { name := "namesRights", fn := fun _ => fun
  | [d1, d2] => { results := [.lit (.bool true)], args := [d1, d2] }
  | _ => none }
def namesRightsRow : OpenClaim := { program := "ythcooheghekplaadoor", sum := "6a587d4d9c237bd965655f4cddc0b3230390a7ff2ed5fee56f072426a3dbee84", func := "pumice/pumicelaw02.NamesRights", spec := "namesRights", inPlace := ["internal/bytealg.IndexByteString", "internal/bytealg.IndexString", "internal/abi.NoEscape", "internal/bytealg.MakeNoZero"], unfollowed := true, recurses := true, named := ["internal/bytealg.MaxLen", "unicode/utf8.first", "unicode/utf8.acceptRanges"], apart := false, laid := [("unicode/utf8.acceptRanges", laid_unicode_utf8_acceptRanges), ("unicode/utf8.first", laid_unicode_utf8_first)] }
def NamesRightsSaid : Prop := namesRightsRow.holds Tryd.pinned (OpenSpec.ofChange namesRightsSpec)

/-- ITS FALSE NEIGHBOUR: 'it returns false'. Refute it at one input. -/
def namesRightsWrong : ChangeSpec := { name := "namesRights", fn := fun _ => fun
  | [d1, d2] => { results := [.lit (.bool false)], args := [d1, d2] }
  | _ => none }
def NamesRightsWrongFalsely : Prop := namesRightsRow.holds Tryd.pinned (OpenSpec.ofChange namesRightsWrong)

/-- 'pumicelaw02.NamesBack': WHATEVER THE INPUT: true; the input reads as it did. -/
def namesBackSpec : ChangeSpec := { name := "namesBack", fn := fun _ => fun
  | [d] => { results := [.lit (.bool true)], args := [d] }
  | _ => none }
def namesBackRow : OpenClaim := { program := "ythcooheghekplaadoor", sum := "6a587d4d9c237bd965655f4cddc0b3230390a7ff2ed5fee56f072426a3dbee84", func := "pumice/pumicelaw02.NamesBack", spec := "namesBack", inPlace := ["internal/bytealg.IndexByteString", "internal/bytealg.IndexString", "internal/abi.NoEscape", "internal/bytealg.MakeNoZero"], unfollowed := true, recurses := true, named := ["internal/bytealg.MaxLen", "unicode/utf8.first", "unicode/utf8.acceptRanges"], apart := false, laid := [("unicode/utf8.acceptRanges", laid_unicode_utf8_acceptRanges), ("unicode/utf8.first", laid_unicode_utf8_first)] }
def NamesBackSaid : Prop := namesBackRow.holds Tryd.pinned (OpenSpec.ofChange namesBackSpec)

/-- ITS FALSE NEIGHBOUR: 'it returns false'. Refute it at one input. -/
def namesBackWrong : ChangeSpec := { name := "namesBack", fn := fun _ => fun
  | [d] => { results := [.lit (.bool false)], args := [d] }
  | _ => none }
def NamesBackWrongFalsely : Prop := namesBackRow.holds Tryd.pinned (OpenSpec.ofChange namesBackWrong)

/-- 'pumicelaw02.NamesClean': WHATEVER THE INPUT: true; the input reads as it did. -/
def namesCleanSpec : ChangeSpec := { name := "namesClean", fn := fun _ => fun
  | [d] => { results := [.lit (.bool true)], args := [d] }
  | _ => none }
def namesCleanRow : OpenClaim := { program := "ythcooheghekplaadoor", sum := "6a587d4d9c237bd965655f4cddc0b3230390a7ff2ed5fee56f072426a3dbee84", func := "pumice/pumicelaw02.NamesClean", spec := "namesClean", inPlace := ["internal/bytealg.IndexByteString", "internal/bytealg.IndexString", "internal/abi.NoEscape", "internal/bytealg.MakeNoZero"], unfollowed := true, recurses := true, named := ["internal/bytealg.MaxLen", "unicode/utf8.first", "unicode/utf8.acceptRanges"], apart := false, laid := [("unicode/utf8.acceptRanges", laid_unicode_utf8_acceptRanges), ("unicode/utf8.first", laid_unicode_utf8_first)] }
def NamesCleanSaid : Prop := namesCleanRow.holds Tryd.pinned (OpenSpec.ofChange namesCleanSpec)

/-- ITS FALSE NEIGHBOUR: 'it returns false'. Refute it at one input. -/
def namesCleanWrong : ChangeSpec := { name := "namesClean", fn := fun _ => fun
  | [d] => { results := [.lit (.bool false)], args := [d] }
  | _ => none }
def NamesCleanWrongFalsely : Prop := namesCleanRow.holds Tryd.pinned (OpenSpec.ofChange namesCleanWrong)

/-- 'pumicelaw02.NamesWithin': WHATEVER THE INPUT: true; the input reads as it did. -/
def namesWithinSpec : ChangeSpec := { name := "namesWithin", fn := fun _ => fun
  | [d1, d2, d3] => { results := [.lit (.bool true)], args := [d1, d2, d3] }
  | _ => none }
def namesWithinRow : OpenClaim := { program := "ythcooheghekplaadoor", sum := "6a587d4d9c237bd965655f4cddc0b3230390a7ff2ed5fee56f072426a3dbee84", func := "pumice/pumicelaw02.NamesWithin", spec := "namesWithin", inPlace := ["internal/bytealg.IndexByteString", "internal/bytealg.IndexString", "internal/abi.NoEscape", "internal/bytealg.MakeNoZero"], unfollowed := true, recurses := true, named := ["internal/bytealg.MaxLen", "unicode/utf8.first", "unicode/utf8.acceptRanges"], apart := false, laid := [("unicode/utf8.acceptRanges", laid_unicode_utf8_acceptRanges), ("unicode/utf8.first", laid_unicode_utf8_first)] }
def NamesWithinSaid : Prop := namesWithinRow.holds Tryd.pinned (OpenSpec.ofChange namesWithinSpec)

/-- ITS FALSE NEIGHBOUR: 'it returns false'. Refute it at one input. -/
def namesWithinWrong : ChangeSpec := { name := "namesWithin", fn := fun _ => fun
  | [d1, d2, d3] => { results := [.lit (.bool false)], args := [d1, d2, d3] }
  | _ => none }
def NamesWithinWrongFalsely : Prop := namesWithinRow.holds Tryd.pinned (OpenSpec.ofChange namesWithinWrong)

/-- 'pumicelaw02.NamesPaths': WHATEVER THE INPUT: true; the input reads as it did. -/
def namesPathsSpec : ChangeSpec := { name := "namesPaths", fn := fun _ => fun
  | [d1, d2, d3] => { results := [.lit (.bool true)], args := [d1, d2, d3] }
  | _ => none }
def namesPathsRow : OpenClaim := { program := "ythcooheghekplaadoor", sum := "6a587d4d9c237bd965655f4cddc0b3230390a7ff2ed5fee56f072426a3dbee84", func := "pumice/pumicelaw02.NamesPaths", spec := "namesPaths", inPlace := ["internal/bytealg.IndexByteString", "internal/bytealg.IndexString", "internal/abi.NoEscape", "internal/bytealg.MakeNoZero"], unfollowed := true, recurses := true, named := ["internal/bytealg.MaxLen", "unicode/utf8.first", "unicode/utf8.acceptRanges"], apart := false, laid := [("unicode/utf8.acceptRanges", laid_unicode_utf8_acceptRanges), ("unicode/utf8.first", laid_unicode_utf8_first)] }
def NamesPathsSaid : Prop := namesPathsRow.holds Tryd.pinned (OpenSpec.ofChange namesPathsSpec)

/-- ITS FALSE NEIGHBOUR: 'it returns false'. Refute it at one input. -/
def namesPathsWrong : ChangeSpec := { name := "namesPaths", fn := fun _ => fun
  | [d1, d2, d3] => { results := [.lit (.bool false)], args := [d1, d2, d3] }
  | _ => none }
def NamesPathsWrongFalsely : Prop := namesPathsRow.holds Tryd.pinned (OpenSpec.ofChange namesPathsWrong)

/-- 'pumicelaw02.NamesSorted': WHATEVER THE INPUT: true; the input reads as it did. -/
def namesSortedSpec : ChangeSpec := { name := "namesSorted", fn := fun _ => fun
  | [d1, d2, d3, d4] => { results := [.lit (.bool true)], args := [d1, d2, d3, d4] }
  | _ => none }
def namesSortedRow : OpenClaim := { program := "ythcooheghekplaadoor", sum := "6a587d4d9c237bd965655f4cddc0b3230390a7ff2ed5fee56f072426a3dbee84", func := "pumice/pumicelaw02.NamesSorted", spec := "namesSorted", inPlace := ["internal/bytealg.IndexByteString", "internal/bytealg.IndexString", "internal/abi.NoEscape", "internal/bytealg.MakeNoZero"], unfollowed := true, recurses := true, named := ["internal/bytealg.MaxLen", "unicode/utf8.first", "unicode/utf8.acceptRanges"], apart := false, laid := [("unicode/utf8.acceptRanges", laid_unicode_utf8_acceptRanges), ("unicode/utf8.first", laid_unicode_utf8_first)] }
def NamesSortedSaid : Prop := namesSortedRow.holds Tryd.pinned (OpenSpec.ofChange namesSortedSpec)

/-- ITS FALSE NEIGHBOUR: 'it returns false'. Refute it at one input. -/
def namesSortedWrong : ChangeSpec := { name := "namesSorted", fn := fun _ => fun
  | [d1, d2, d3, d4] => { results := [.lit (.bool false)], args := [d1, d2, d3, d4] }
  | _ => none }
def NamesSortedWrongFalsely : Prop := namesSortedRow.holds Tryd.pinned (OpenSpec.ofChange namesSortedWrong)

/-- 'pumicelaw02.NamesOrders': WHATEVER THE INPUT: true; the input reads as it did. -/
def namesOrdersSpec : ChangeSpec := { name := "namesOrders", fn := fun _ => fun
  | [d1, d2, d3, d4] => { results := [.lit (.bool true)], args := [d1, d2, d3, d4] }
  | _ => none }
def namesOrdersRow : OpenClaim := { program := "ythcooheghekplaadoor", sum := "6a587d4d9c237bd965655f4cddc0b3230390a7ff2ed5fee56f072426a3dbee84", func := "pumice/pumicelaw02.NamesOrders", spec := "namesOrders", inPlace := ["internal/bytealg.IndexByteString", "internal/bytealg.IndexString", "internal/abi.NoEscape", "internal/bytealg.MakeNoZero"], unfollowed := true, recurses := true, named := ["internal/bytealg.MaxLen", "unicode/utf8.first", "unicode/utf8.acceptRanges"], apart := false, laid := [("unicode/utf8.acceptRanges", laid_unicode_utf8_acceptRanges), ("unicode/utf8.first", laid_unicode_utf8_first)] }
def NamesOrdersSaid : Prop := namesOrdersRow.holds Tryd.pinned (OpenSpec.ofChange namesOrdersSpec)

/-- ITS FALSE NEIGHBOUR: 'it returns false'. Refute it at one input. -/
def namesOrdersWrong : ChangeSpec := { name := "namesOrders", fn := fun _ => fun
  | [d1, d2, d3, d4] => { results := [.lit (.bool false)], args := [d1, d2, d3, d4] }
  | _ => none }
def NamesOrdersWrongFalsely : Prop := namesOrdersRow.holds Tryd.pinned (OpenSpec.ofChange namesOrdersWrong)

/- THE SECOND FORM. 'bulk': how many values and letters a reading holds, each counted each time it is reached (what is shared counts as often as it is met; a slice's spare places count too). A statement '..UptoSaid' is the law's where the arguments, and the package variables that the reading takes, are together of bulk at most 1048576: NARROWER than '..Said'. Prove '..Said' where nothing that the law and all that it calls make is longer than what came in: it says more and counts as full. Else prove '..UptoSaid'. A law counts once. -/
mutual
def uptoBulk {H : Type} : DataW H → Nat
  | .lit (.string bytes) => bytes.length + 1
  | .lit _ => 1
  | .nil => 1
  | .ptr d => uptoBulk d + 1
  | .slice elems spare => uptoBulkAll elems + uptoBulkAll spare + 1
  | .agg parts => uptoBulkAll parts + 1
  | .iface _ d => uptoBulk d + 1
  | .map entries => uptoBulkEntries entries + 1
  | .held _ => 1
def uptoBulkAll {H : Type} : List (DataW H) → Nat
  | [] => 0
  | d :: r => uptoBulk d + uptoBulkAll r
def uptoBulkEntries {H : Type} : List (Lit × DataW H) → Nat
  | [] => 0
  | x :: r => uptoBulkEntry x + uptoBulkEntries r
def uptoBulkEntry {H : Type} : Lit × DataW H → Nat
  | (.string bytes, d) => bytes.length + uptoBulk d + 1
  | (_, d) => uptoBulk d + 1
 end
def uptoSmall : (H : Type) → List (DataW H) → Bool := fun _ ds => decide (uptoBulkAll ds ≤ 1048576)
def OpenSpec.upto (s : _root_.Go.ChangeSpec) : _root_.Go.OpenSpec := { _root_.Go.OpenSpec.ofChange s with cond := some uptoSmall }

/-- 'pumicelaw02.NamesRights', WHERE WHAT IT READS IS OF BULK AT MOST 1048576: true; the input reads as it did. -/
def namesRightsUptoRow : OpenClaim := { program := "ythcooheghekplaadoor", sum := "6a587d4d9c237bd965655f4cddc0b3230390a7ff2ed5fee56f072426a3dbee84", func := "pumice/pumicelaw02.NamesRights", spec := "namesRights", inPlace := ["internal/bytealg.IndexByteString", "internal/bytealg.IndexString", "internal/abi.NoEscape", "internal/bytealg.MakeNoZero"], unfollowed := true, recurses := true, named := ["internal/bytealg.MaxLen", "unicode/utf8.first", "unicode/utf8.acceptRanges"], apart := false, laid := [("unicode/utf8.acceptRanges", laid_unicode_utf8_acceptRanges), ("unicode/utf8.first", laid_unicode_utf8_first)], narrowed := true }
def NamesRightsUptoSaid : Prop := namesRightsUptoRow.holds Tryd.pinned (OpenSpec.upto namesRightsSpec)

/-- 'pumicelaw02.NamesBack', WHERE WHAT IT READS IS OF BULK AT MOST 1048576: true; the input reads as it did. -/
def namesBackUptoRow : OpenClaim := { program := "ythcooheghekplaadoor", sum := "6a587d4d9c237bd965655f4cddc0b3230390a7ff2ed5fee56f072426a3dbee84", func := "pumice/pumicelaw02.NamesBack", spec := "namesBack", inPlace := ["internal/bytealg.IndexByteString", "internal/bytealg.IndexString", "internal/abi.NoEscape", "internal/bytealg.MakeNoZero"], unfollowed := true, recurses := true, named := ["internal/bytealg.MaxLen", "unicode/utf8.first", "unicode/utf8.acceptRanges"], apart := false, laid := [("unicode/utf8.acceptRanges", laid_unicode_utf8_acceptRanges), ("unicode/utf8.first", laid_unicode_utf8_first)], narrowed := true }
def NamesBackUptoSaid : Prop := namesBackUptoRow.holds Tryd.pinned (OpenSpec.upto namesBackSpec)

/-- 'pumicelaw02.NamesClean', WHERE WHAT IT READS IS OF BULK AT MOST 1048576: true; the input reads as it did. -/
def namesCleanUptoRow : OpenClaim := { program := "ythcooheghekplaadoor", sum := "6a587d4d9c237bd965655f4cddc0b3230390a7ff2ed5fee56f072426a3dbee84", func := "pumice/pumicelaw02.NamesClean", spec := "namesClean", inPlace := ["internal/bytealg.IndexByteString", "internal/bytealg.IndexString", "internal/abi.NoEscape", "internal/bytealg.MakeNoZero"], unfollowed := true, recurses := true, named := ["internal/bytealg.MaxLen", "unicode/utf8.first", "unicode/utf8.acceptRanges"], apart := false, laid := [("unicode/utf8.acceptRanges", laid_unicode_utf8_acceptRanges), ("unicode/utf8.first", laid_unicode_utf8_first)], narrowed := true }
def NamesCleanUptoSaid : Prop := namesCleanUptoRow.holds Tryd.pinned (OpenSpec.upto namesCleanSpec)

/-- 'pumicelaw02.NamesWithin', WHERE WHAT IT READS IS OF BULK AT MOST 1048576: true; the input reads as it did. -/
def namesWithinUptoRow : OpenClaim := { program := "ythcooheghekplaadoor", sum := "6a587d4d9c237bd965655f4cddc0b3230390a7ff2ed5fee56f072426a3dbee84", func := "pumice/pumicelaw02.NamesWithin", spec := "namesWithin", inPlace := ["internal/bytealg.IndexByteString", "internal/bytealg.IndexString", "internal/abi.NoEscape", "internal/bytealg.MakeNoZero"], unfollowed := true, recurses := true, named := ["internal/bytealg.MaxLen", "unicode/utf8.first", "unicode/utf8.acceptRanges"], apart := false, laid := [("unicode/utf8.acceptRanges", laid_unicode_utf8_acceptRanges), ("unicode/utf8.first", laid_unicode_utf8_first)], narrowed := true }
def NamesWithinUptoSaid : Prop := namesWithinUptoRow.holds Tryd.pinned (OpenSpec.upto namesWithinSpec)

/-- 'pumicelaw02.NamesPaths', WHERE WHAT IT READS IS OF BULK AT MOST 1048576: true; the input reads as it did. -/
def namesPathsUptoRow : OpenClaim := { program := "ythcooheghekplaadoor", sum := "6a587d4d9c237bd965655f4cddc0b3230390a7ff2ed5fee56f072426a3dbee84", func := "pumice/pumicelaw02.NamesPaths", spec := "namesPaths", inPlace := ["internal/bytealg.IndexByteString", "internal/bytealg.IndexString", "internal/abi.NoEscape", "internal/bytealg.MakeNoZero"], unfollowed := true, recurses := true, named := ["internal/bytealg.MaxLen", "unicode/utf8.first", "unicode/utf8.acceptRanges"], apart := false, laid := [("unicode/utf8.acceptRanges", laid_unicode_utf8_acceptRanges), ("unicode/utf8.first", laid_unicode_utf8_first)], narrowed := true }
def NamesPathsUptoSaid : Prop := namesPathsUptoRow.holds Tryd.pinned (OpenSpec.upto namesPathsSpec)

/-- 'pumicelaw02.NamesSorted', WHERE WHAT IT READS IS OF BULK AT MOST 1048576: true; the input reads as it did. -/
def namesSortedUptoRow : OpenClaim := { program := "ythcooheghekplaadoor", sum := "6a587d4d9c237bd965655f4cddc0b3230390a7ff2ed5fee56f072426a3dbee84", func := "pumice/pumicelaw02.NamesSorted", spec := "namesSorted", inPlace := ["internal/bytealg.IndexByteString", "internal/bytealg.IndexString", "internal/abi.NoEscape", "internal/bytealg.MakeNoZero"], unfollowed := true, recurses := true, named := ["internal/bytealg.MaxLen", "unicode/utf8.first", "unicode/utf8.acceptRanges"], apart := false, laid := [("unicode/utf8.acceptRanges", laid_unicode_utf8_acceptRanges), ("unicode/utf8.first", laid_unicode_utf8_first)], narrowed := true }
def NamesSortedUptoSaid : Prop := namesSortedUptoRow.holds Tryd.pinned (OpenSpec.upto namesSortedSpec)

/-- 'pumicelaw02.NamesOrders', WHERE WHAT IT READS IS OF BULK AT MOST 1048576: true; the input reads as it did. -/
def namesOrdersUptoRow : OpenClaim := { program := "ythcooheghekplaadoor", sum := "6a587d4d9c237bd965655f4cddc0b3230390a7ff2ed5fee56f072426a3dbee84", func := "pumice/pumicelaw02.NamesOrders", spec := "namesOrders", inPlace := ["internal/bytealg.IndexByteString", "internal/bytealg.IndexString", "internal/abi.NoEscape", "internal/bytealg.MakeNoZero"], unfollowed := true, recurses := true, named := ["internal/bytealg.MaxLen", "unicode/utf8.first", "unicode/utf8.acceptRanges"], apart := false, laid := [("unicode/utf8.acceptRanges", laid_unicode_utf8_acceptRanges), ("unicode/utf8.first", laid_unicode_utf8_first)], narrowed := true }
def NamesOrdersUptoSaid : Prop := namesOrdersUptoRow.holds Tryd.pinned (OpenSpec.upto namesOrdersSpec)

end Rows
end Go.Proofs.YthcooheghekplaaDoor
