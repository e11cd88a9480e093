/-
  DERIVED. GIVEN WITH THE SEED: THE CARDS: each row of YthcooheghekplaaDoorRows.lean that lists a variable, with what it lists TIED to the program's text (the seventh form; the later family's looks); each row that meets fmt, with fmt's text TOLD by the authors' own Lean function (tested against real Go, not proved from fmt's source: count such statements apart). THE CARD IS WHAT COUNTS. Prove the row's statement (the work); the ties are given (YthcooheghekplaaDoorTie.lean); close each card by the builder's one call (the guide's Derived/Test/ToyasCard.lean, 'card_holds'). Laid BY PROGRAM, IN A SANDBOX (cutbox-door.mjs). By AI agents, Wed Nov 11 2026. No macro, syntax, notation, axiom, sorry.
-/
import Derived.Test.YthcooheghekplaaDoorRows
import GoSem.ClaimSeven
namespace Go.Proofs.YthcooheghekplaaDoor
namespace Rows

/-- THE TIED CARD OF 'pumicelaw02.NamesRights'. -/
def namesRightsCard : Claim7 := { stood := { row := namesRightsRow, standIns := [], harness := (true, "81f1ea4f3d63411db3958f1d3eb5d23f87bf90ba1fbeab9d2022c0637038fda1"), looks := false }, kinds := [], alts := [], laidByText := true, laidKinds := [.data, .pinned], laidTests := true, laidLooks := .later }
def NamesRightsCardSaid : Prop := Claim7.holds Tryd.pinned (.plain (OpenSpec.ofChange namesRightsSpec)) namesRightsCard

/-- THE TIED CARD OF 'pumicelaw02.NamesBack'. -/
def namesBackCard : Claim7 := { stood := { row := namesBackRow, standIns := [], harness := (true, "81f1ea4f3d63411db3958f1d3eb5d23f87bf90ba1fbeab9d2022c0637038fda1"), looks := false }, kinds := [], alts := [], laidByText := true, laidKinds := [.data, .pinned], laidTests := true, laidLooks := .later }
def NamesBackCardSaid : Prop := Claim7.holds Tryd.pinned (.plain (OpenSpec.ofChange namesBackSpec)) namesBackCard

/-- THE TIED CARD OF 'pumicelaw02.NamesClean'. -/
def namesCleanCard : Claim7 := { stood := { row := namesCleanRow, standIns := [], harness := (true, "81f1ea4f3d63411db3958f1d3eb5d23f87bf90ba1fbeab9d2022c0637038fda1"), looks := false }, kinds := [], alts := [], laidByText := true, laidKinds := [.data, .pinned], laidTests := true, laidLooks := .later }
def NamesCleanCardSaid : Prop := Claim7.holds Tryd.pinned (.plain (OpenSpec.ofChange namesCleanSpec)) namesCleanCard

/-- THE TIED CARD OF 'pumicelaw02.NamesWithin'. -/
def namesWithinCard : Claim7 := { stood := { row := namesWithinRow, standIns := [], harness := (true, "81f1ea4f3d63411db3958f1d3eb5d23f87bf90ba1fbeab9d2022c0637038fda1"), looks := false }, kinds := [], alts := [], laidByText := true, laidKinds := [.data, .pinned], laidTests := true, laidLooks := .later }
def NamesWithinCardSaid : Prop := Claim7.holds Tryd.pinned (.plain (OpenSpec.ofChange namesWithinSpec)) namesWithinCard

/-- THE TIED CARD OF 'pumicelaw02.NamesPaths'. -/
def namesPathsCard : Claim7 := { stood := { row := namesPathsRow, standIns := [], harness := (true, "81f1ea4f3d63411db3958f1d3eb5d23f87bf90ba1fbeab9d2022c0637038fda1"), looks := false }, kinds := [], alts := [], laidByText := true, laidKinds := [.data, .pinned], laidTests := true, laidLooks := .later }
def NamesPathsCardSaid : Prop := Claim7.holds Tryd.pinned (.plain (OpenSpec.ofChange namesPathsSpec)) namesPathsCard

/-- THE TIED CARD OF 'pumicelaw02.NamesSorted'. -/
def namesSortedCard : Claim7 := { stood := { row := namesSortedRow, standIns := [], harness := (true, "81f1ea4f3d63411db3958f1d3eb5d23f87bf90ba1fbeab9d2022c0637038fda1"), looks := false }, kinds := [], alts := [], laidByText := true, laidKinds := [.data, .pinned], laidTests := true, laidLooks := .later }
def NamesSortedCardSaid : Prop := Claim7.holds Tryd.pinned (.plain (OpenSpec.ofChange namesSortedSpec)) namesSortedCard

/-- THE TIED CARD OF 'pumicelaw02.NamesOrders'. -/
def namesOrdersCard : Claim7 := { stood := { row := namesOrdersRow, standIns := [], harness := (true, "81f1ea4f3d63411db3958f1d3eb5d23f87bf90ba1fbeab9d2022c0637038fda1"), looks := false }, kinds := [], alts := [], laidByText := true, laidKinds := [.data, .pinned], laidTests := true, laidLooks := .later }
def NamesOrdersCardSaid : Prop := Claim7.holds Tryd.pinned (.plain (OpenSpec.ofChange namesOrdersSpec)) namesOrdersCard

/-- THE SECOND FORM's CARD OF 'pumicelaw02.NamesRights'. -/
def namesRightsUptoCard : Claim7 := { stood := { row := namesRightsUptoRow, standIns := [], harness := (true, "81f1ea4f3d63411db3958f1d3eb5d23f87bf90ba1fbeab9d2022c0637038fda1"), looks := false }, kinds := [], alts := [], laidByText := true, laidKinds := [.data, .pinned], laidTests := true, laidLooks := .later }
def NamesRightsUptoCardSaid : Prop := Claim7.holds Tryd.pinned (.plain (OpenSpec.upto namesRightsSpec)) namesRightsUptoCard

/-- THE SECOND FORM's CARD OF 'pumicelaw02.NamesBack'. -/
def namesBackUptoCard : Claim7 := { stood := { row := namesBackUptoRow, standIns := [], harness := (true, "81f1ea4f3d63411db3958f1d3eb5d23f87bf90ba1fbeab9d2022c0637038fda1"), looks := false }, kinds := [], alts := [], laidByText := true, laidKinds := [.data, .pinned], laidTests := true, laidLooks := .later }
def NamesBackUptoCardSaid : Prop := Claim7.holds Tryd.pinned (.plain (OpenSpec.upto namesBackSpec)) namesBackUptoCard

/-- THE SECOND FORM's CARD OF 'pumicelaw02.NamesClean'. -/
def namesCleanUptoCard : Claim7 := { stood := { row := namesCleanUptoRow, standIns := [], harness := (true, "81f1ea4f3d63411db3958f1d3eb5d23f87bf90ba1fbeab9d2022c0637038fda1"), looks := false }, kinds := [], alts := [], laidByText := true, laidKinds := [.data, .pinned], laidTests := true, laidLooks := .later }
def NamesCleanUptoCardSaid : Prop := Claim7.holds Tryd.pinned (.plain (OpenSpec.upto namesCleanSpec)) namesCleanUptoCard

/-- THE SECOND FORM's CARD OF 'pumicelaw02.NamesWithin'. -/
def namesWithinUptoCard : Claim7 := { stood := { row := namesWithinUptoRow, standIns := [], harness := (true, "81f1ea4f3d63411db3958f1d3eb5d23f87bf90ba1fbeab9d2022c0637038fda1"), looks := false }, kinds := [], alts := [], laidByText := true, laidKinds := [.data, .pinned], laidTests := true, laidLooks := .later }
def NamesWithinUptoCardSaid : Prop := Claim7.holds Tryd.pinned (.plain (OpenSpec.upto namesWithinSpec)) namesWithinUptoCard

/-- THE SECOND FORM's CARD OF 'pumicelaw02.NamesPaths'. -/
def namesPathsUptoCard : Claim7 := { stood := { row := namesPathsUptoRow, standIns := [], harness := (true, "81f1ea4f3d63411db3958f1d3eb5d23f87bf90ba1fbeab9d2022c0637038fda1"), looks := false }, kinds := [], alts := [], laidByText := true, laidKinds := [.data, .pinned], laidTests := true, laidLooks := .later }
def NamesPathsUptoCardSaid : Prop := Claim7.holds Tryd.pinned (.plain (OpenSpec.upto namesPathsSpec)) namesPathsUptoCard

/-- THE SECOND FORM's CARD OF 'pumicelaw02.NamesSorted'. -/
def namesSortedUptoCard : Claim7 := { stood := { row := namesSortedUptoRow, standIns := [], harness := (true, "81f1ea4f3d63411db3958f1d3eb5d23f87bf90ba1fbeab9d2022c0637038fda1"), looks := false }, kinds := [], alts := [], laidByText := true, laidKinds := [.data, .pinned], laidTests := true, laidLooks := .later }
def NamesSortedUptoCardSaid : Prop := Claim7.holds Tryd.pinned (.plain (OpenSpec.upto namesSortedSpec)) namesSortedUptoCard

/-- THE SECOND FORM's CARD OF 'pumicelaw02.NamesOrders'. -/
def namesOrdersUptoCard : Claim7 := { stood := { row := namesOrdersUptoRow, standIns := [], harness := (true, "81f1ea4f3d63411db3958f1d3eb5d23f87bf90ba1fbeab9d2022c0637038fda1"), looks := false }, kinds := [], alts := [], laidByText := true, laidKinds := [.data, .pinned], laidTests := true, laidLooks := .later }
def NamesOrdersUptoCardSaid : Prop := Claim7.holds Tryd.pinned (.plain (OpenSpec.upto namesOrdersSpec)) namesOrdersUptoCard
end Rows
end Go.Proofs.YthcooheghekplaaDoor
