/-
  DERIVED. GIVEN WITH THE SEED: THE CARDS: each row of YtfmmmojlnfndkaaDoorRows.lean that lists a variable, with what it lists TIED to the program's text (the seventh form; the later family's looks); each row that meets fmt, with fmt's text TOLD by the authors' own Lean function (tested against real Go, not proved from fmt's source: count such statements apart). THE CARD IS WHAT COUNTS. Prove the row's statement (the work); the ties are given (YtfmmmojlnfndkaaDoorTie.lean); close each card by the builder's one call (the guide's Derived/Test/ToyasCard.lean, 'card_holds'). Laid BY PROGRAM, IN A SANDBOX (cutbox-door.mjs). By AI agents, Wed Nov 11 2026. No macro, syntax, notation, axiom, sorry.
-/
import Derived.Test.YtfmmmojlnfndkaaDoorRows
import GoSem.ClaimSeven
namespace Go.Proofs.YtfmmmojlnfndkaaDoor
namespace Rows

/-- THE TIED CARD OF 'pumicelaw04.FaultNames'. -/
def faultNamesCard : Claim7 := { stood := { row := faultNamesRow, standIns := [], harness := (true, "9d8196f7cc97b7448d9ef7d75e0a15bf449698181877602f1c23428d3cc8f97c"), looks := true }, kinds := [], alts := [], laidByText := true, laidKinds := [.data, .data, .data, .handle], laidTests := true, laidLooks := .later }
def FaultNamesCardSaid : Prop := Claim7.holds Tryd.pinned (.plain (OpenSpec.ofChange faultNamesSpec)) faultNamesCard

/-- THE TIED CARD OF 'pumicelaw04.FaultFound'. -/
def faultFoundCard : Claim7 := { stood := { row := faultFoundRow, standIns := [], harness := (true, "9d8196f7cc97b7448d9ef7d75e0a15bf449698181877602f1c23428d3cc8f97c"), looks := true }, kinds := [], alts := [], laidByText := true, laidKinds := [.data, .data, .data, .handle], laidTests := true, laidLooks := .later }
def FaultFoundCardSaid : Prop := Claim7.holds Tryd.pinned (.plain (OpenSpec.ofChange faultFoundSpec)) faultFoundCard

/-- THE TIED CARD OF 'pumicelaw04.FaultWraps'. -/
def faultWrapsCard : Claim7 := { stood := { row := faultWrapsRow, standIns := [], harness := (true, "9d8196f7cc97b7448d9ef7d75e0a15bf449698181877602f1c23428d3cc8f97c"), looks := true }, kinds := [], alts := [], laidByText := true, laidKinds := [.data, .data, .data, .handle], laidTests := true, laidLooks := .later }
def FaultWrapsCardSaid : Prop := Claim7.holds Tryd.pinned (.plain (OpenSpec.ofChange faultWrapsSpec)) faultWrapsCard

/-- THE TIED CARD OF 'pumicelaw04.FaultChain'. -/
def faultChainCard : Claim7 := { stood := { row := faultChainRow, standIns := [], harness := (true, "9d8196f7cc97b7448d9ef7d75e0a15bf449698181877602f1c23428d3cc8f97c"), looks := true }, kinds := [], alts := [], laidByText := true, laidKinds := [.data, .data, .data, .handle], laidTests := true, laidLooks := .later }
def FaultChainCardSaid : Prop := Claim7.holds Tryd.pinned (.plain (OpenSpec.ofChange faultChainSpec)) faultChainCard

/-- THE TIED CARD OF 'pumicelaw04.FaultWorse'. -/
def faultWorseCard : Claim7 := { stood := { row := faultWorseRow, standIns := [], harness := (true, "9d8196f7cc97b7448d9ef7d75e0a15bf449698181877602f1c23428d3cc8f97c"), looks := true }, kinds := [], alts := [], laidByText := true, laidKinds := [.data, .data, .data, .handle], laidTests := true, laidLooks := .later }
def FaultWorseCardSaid : Prop := Claim7.holds Tryd.pinned (.plain (OpenSpec.ofChange faultWorseSpec)) faultWorseCard

/-- THE TIED CARD OF 'pumicelaw04.FaultStrange'. -/
def faultStrangeCard : Claim7 := { stood := { row := faultStrangeRow, standIns := [], harness := (true, "9d8196f7cc97b7448d9ef7d75e0a15bf449698181877602f1c23428d3cc8f97c"), looks := true }, kinds := [], alts := [], laidByText := true, laidKinds := [.data, .data, .data, .handle], laidTests := true, laidLooks := .later }
def FaultStrangeCardSaid : Prop := Claim7.holds Tryd.pinned (.plain (OpenSpec.ofChange faultStrangeSpec)) faultStrangeCard

/-- THE TIED CARD OF 'pumicelaw04.FaultFirsts'. -/
def faultFirstsCard : Claim7 := { stood := { row := faultFirstsRow, standIns := [], harness := (true, "9d8196f7cc97b7448d9ef7d75e0a15bf449698181877602f1c23428d3cc8f97c"), looks := true }, kinds := [], alts := [], laidByText := true, laidKinds := [.data, .data, .data, .handle], laidTests := true, laidLooks := .later }
def FaultFirstsCardSaid : Prop := Claim7.holds Tryd.pinned (.plain (OpenSpec.ofChange faultFirstsSpec)) faultFirstsCard

/-- THE SECOND FORM's CARD OF 'pumicelaw04.FaultNames'. -/
def faultNamesUptoCard : Claim7 := { stood := { row := faultNamesUptoRow, standIns := [], harness := (true, "9d8196f7cc97b7448d9ef7d75e0a15bf449698181877602f1c23428d3cc8f97c"), looks := true }, kinds := [], alts := [], laidByText := true, laidKinds := [.data, .data, .data, .handle], laidTests := true, laidLooks := .later }
def FaultNamesUptoCardSaid : Prop := Claim7.holds Tryd.pinned (.plain (OpenSpec.upto faultNamesSpec)) faultNamesUptoCard

/-- THE SECOND FORM's CARD OF 'pumicelaw04.FaultFound'. -/
def faultFoundUptoCard : Claim7 := { stood := { row := faultFoundUptoRow, standIns := [], harness := (true, "9d8196f7cc97b7448d9ef7d75e0a15bf449698181877602f1c23428d3cc8f97c"), looks := true }, kinds := [], alts := [], laidByText := true, laidKinds := [.data, .data, .data, .handle], laidTests := true, laidLooks := .later }
def FaultFoundUptoCardSaid : Prop := Claim7.holds Tryd.pinned (.plain (OpenSpec.upto faultFoundSpec)) faultFoundUptoCard

/-- THE SECOND FORM's CARD OF 'pumicelaw04.FaultWraps'. -/
def faultWrapsUptoCard : Claim7 := { stood := { row := faultWrapsUptoRow, standIns := [], harness := (true, "9d8196f7cc97b7448d9ef7d75e0a15bf449698181877602f1c23428d3cc8f97c"), looks := true }, kinds := [], alts := [], laidByText := true, laidKinds := [.data, .data, .data, .handle], laidTests := true, laidLooks := .later }
def FaultWrapsUptoCardSaid : Prop := Claim7.holds Tryd.pinned (.plain (OpenSpec.upto faultWrapsSpec)) faultWrapsUptoCard

/-- THE SECOND FORM's CARD OF 'pumicelaw04.FaultChain'. -/
def faultChainUptoCard : Claim7 := { stood := { row := faultChainUptoRow, standIns := [], harness := (true, "9d8196f7cc97b7448d9ef7d75e0a15bf449698181877602f1c23428d3cc8f97c"), looks := true }, kinds := [], alts := [], laidByText := true, laidKinds := [.data, .data, .data, .handle], laidTests := true, laidLooks := .later }
def FaultChainUptoCardSaid : Prop := Claim7.holds Tryd.pinned (.plain (OpenSpec.upto faultChainSpec)) faultChainUptoCard

/-- THE SECOND FORM's CARD OF 'pumicelaw04.FaultWorse'. -/
def faultWorseUptoCard : Claim7 := { stood := { row := faultWorseUptoRow, standIns := [], harness := (true, "9d8196f7cc97b7448d9ef7d75e0a15bf449698181877602f1c23428d3cc8f97c"), looks := true }, kinds := [], alts := [], laidByText := true, laidKinds := [.data, .data, .data, .handle], laidTests := true, laidLooks := .later }
def FaultWorseUptoCardSaid : Prop := Claim7.holds Tryd.pinned (.plain (OpenSpec.upto faultWorseSpec)) faultWorseUptoCard

/-- THE SECOND FORM's CARD OF 'pumicelaw04.FaultStrange'. -/
def faultStrangeUptoCard : Claim7 := { stood := { row := faultStrangeUptoRow, standIns := [], harness := (true, "9d8196f7cc97b7448d9ef7d75e0a15bf449698181877602f1c23428d3cc8f97c"), looks := true }, kinds := [], alts := [], laidByText := true, laidKinds := [.data, .data, .data, .handle], laidTests := true, laidLooks := .later }
def FaultStrangeUptoCardSaid : Prop := Claim7.holds Tryd.pinned (.plain (OpenSpec.upto faultStrangeSpec)) faultStrangeUptoCard

/-- THE SECOND FORM's CARD OF 'pumicelaw04.FaultFirsts'. -/
def faultFirstsUptoCard : Claim7 := { stood := { row := faultFirstsUptoRow, standIns := [], harness := (true, "9d8196f7cc97b7448d9ef7d75e0a15bf449698181877602f1c23428d3cc8f97c"), looks := true }, kinds := [], alts := [], laidByText := true, laidKinds := [.data, .data, .data, .handle], laidTests := true, laidLooks := .later }
def FaultFirstsUptoCardSaid : Prop := Claim7.holds Tryd.pinned (.plain (OpenSpec.upto faultFirstsSpec)) faultFirstsUptoCard
end Rows
end Go.Proofs.YtfmmmojlnfndkaaDoor
