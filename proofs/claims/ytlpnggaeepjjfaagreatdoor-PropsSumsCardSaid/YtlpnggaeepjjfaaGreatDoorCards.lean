/-
  DERIVED. GIVEN WITH THE SEED: THE CARDS: each row of YtlpnggaeepjjfaaGreatDoorRows.lean that lists a variable, with what it lists TIED to the program's text (the seventh form; the later family's looks); each row that meets fmt, with fmt's text TOLD by the authors' own Lean function (tested against real Go, not proved from fmt's source: count such statements apart). THE CARD IS WHAT COUNTS. Prove the row's statement (the work); the ties are given (YtlpnggaeepjjfaaGreatDoorTie.lean); close each card by the builder's one call (the guide's Derived/Test/ToyasCard.lean, 'card_holds'). Laid BY PROGRAM, IN A SANDBOX (cutbox-door.mjs). By AI agents, Wed Nov 11 2026. No macro, syntax, notation, axiom, sorry.
-/
import Derived.Test.YtlpnggaeepjjfaaGreatDoorRows
import GoSem.ClaimSeven
namespace Go.Proofs.YtlpnggaeepjjfaaGreatDoor
namespace Rows

/-- THE TIED CARD OF 'pumicelaw14.PropsErrors'. -/
def propsErrorsCard : Claim7 := { stood := { row := propsErrorsRow, standIns := [], harness := (true, "5073e521733e0d4aadbd2993afe9d363fc5f3ed24e86c13892bea69a8cccabd3"), looks := true }, kinds := [], alts := [], laidByText := true, laidKinds := [.data, .data, .data, .data, .sentinel, .sentinel, .pinned], laidTests := true, laidLooks := .later }
def PropsErrorsCardSaid : Prop := Claim7.holds Tryz.pinned (.plain (OpenSpec.ofChange propsErrorsSpec)) propsErrorsCard

/-- THE TIED CARD OF 'pumicelaw14.PropsVictims'. -/
def propsVictimsCard : Claim7 := { stood := { row := propsVictimsRow, standIns := [], harness := (true, "5073e521733e0d4aadbd2993afe9d363fc5f3ed24e86c13892bea69a8cccabd3"), looks := true }, kinds := [], alts := [], laidByText := true, laidKinds := [.data, .data, .data, .data, .sentinel, .sentinel, .pinned], laidTests := true, laidLooks := .later }
def PropsVictimsCardSaid : Prop := Claim7.holds Tryz.pinned (.plain (OpenSpec.ofChange propsVictimsSpec)) propsVictimsCard

/-- THE TIED CARD OF 'pumicelaw14.PropsBack'. -/
def propsBackCard : Claim7 := { stood := { row := propsBackRow, standIns := [], harness := (true, "5073e521733e0d4aadbd2993afe9d363fc5f3ed24e86c13892bea69a8cccabd3"), looks := true }, kinds := [], alts := [], laidByText := true, laidKinds := [.data, .data, .data, .data, .sentinel, .sentinel, .pinned], laidTests := true, laidLooks := .later }
def PropsBackCardSaid : Prop := Claim7.holds Tryz.pinned (.plain (OpenSpec.ofChange propsBackSpec)) propsBackCard

/-- THE TIED CARD OF 'pumicelaw14.PropsPlays'. -/
def propsPlaysCard : Claim7 := { stood := { row := propsPlaysRow, standIns := [], harness := (true, "5073e521733e0d4aadbd2993afe9d363fc5f3ed24e86c13892bea69a8cccabd3"), looks := true }, kinds := [], alts := [], laidByText := true, laidKinds := [.data, .data, .data, .data, .sentinel, .sentinel, .pinned], laidTests := true, laidLooks := .later }
def PropsPlaysCardSaid : Prop := Claim7.holds Tryz.pinned (.plain (OpenSpec.ofChange propsPlaysSpec)) propsPlaysCard

/-- THE TIED CARD OF 'pumicelaw14.PropsParses'. -/
def propsParsesCard : Claim7 := { stood := { row := propsParsesRow, standIns := [], harness := (true, "5073e521733e0d4aadbd2993afe9d363fc5f3ed24e86c13892bea69a8cccabd3"), looks := true }, kinds := [], alts := [], laidByText := true, laidKinds := [.data, .data, .data, .data, .sentinel, .sentinel, .pinned], laidTests := true, laidLooks := .later }
def PropsParsesCardSaid : Prop := Claim7.holds Tryz.pinned (.plain (OpenSpec.ofChange propsParsesSpec)) propsParsesCard

/-- THE TIED CARD OF 'pumicelaw14.PropsSums'. -/
def propsSumsCard : Claim7 := { stood := { row := propsSumsRow, standIns := [], harness := (true, "5073e521733e0d4aadbd2993afe9d363fc5f3ed24e86c13892bea69a8cccabd3"), looks := true }, kinds := [], alts := [], laidByText := true, laidKinds := [.data, .data, .data, .data, .sentinel, .sentinel, .pinned], laidTests := true, laidLooks := .later }
def PropsSumsCardSaid : Prop := Claim7.holds Tryz.pinned (.plain (OpenSpec.ofChange propsSumsSpec)) propsSumsCard

/-- THE SECOND FORM's CARD OF 'pumicelaw14.PropsErrors'. -/
def propsErrorsUptoCard : Claim7 := { stood := { row := propsErrorsUptoRow, standIns := [], harness := (true, "5073e521733e0d4aadbd2993afe9d363fc5f3ed24e86c13892bea69a8cccabd3"), looks := true }, kinds := [], alts := [], laidByText := true, laidKinds := [.data, .data, .data, .data, .sentinel, .sentinel, .pinned], laidTests := true, laidLooks := .later }
def PropsErrorsUptoCardSaid : Prop := Claim7.holds Tryz.pinned (.plain (OpenSpec.upto propsErrorsSpec)) propsErrorsUptoCard

/-- THE SECOND FORM's CARD OF 'pumicelaw14.PropsVictims'. -/
def propsVictimsUptoCard : Claim7 := { stood := { row := propsVictimsUptoRow, standIns := [], harness := (true, "5073e521733e0d4aadbd2993afe9d363fc5f3ed24e86c13892bea69a8cccabd3"), looks := true }, kinds := [], alts := [], laidByText := true, laidKinds := [.data, .data, .data, .data, .sentinel, .sentinel, .pinned], laidTests := true, laidLooks := .later }
def PropsVictimsUptoCardSaid : Prop := Claim7.holds Tryz.pinned (.plain (OpenSpec.upto propsVictimsSpec)) propsVictimsUptoCard

/-- THE SECOND FORM's CARD OF 'pumicelaw14.PropsBack'. -/
def propsBackUptoCard : Claim7 := { stood := { row := propsBackUptoRow, standIns := [], harness := (true, "5073e521733e0d4aadbd2993afe9d363fc5f3ed24e86c13892bea69a8cccabd3"), looks := true }, kinds := [], alts := [], laidByText := true, laidKinds := [.data, .data, .data, .data, .sentinel, .sentinel, .pinned], laidTests := true, laidLooks := .later }
def PropsBackUptoCardSaid : Prop := Claim7.holds Tryz.pinned (.plain (OpenSpec.upto propsBackSpec)) propsBackUptoCard

/-- THE SECOND FORM's CARD OF 'pumicelaw14.PropsPlays'. -/
def propsPlaysUptoCard : Claim7 := { stood := { row := propsPlaysUptoRow, standIns := [], harness := (true, "5073e521733e0d4aadbd2993afe9d363fc5f3ed24e86c13892bea69a8cccabd3"), looks := true }, kinds := [], alts := [], laidByText := true, laidKinds := [.data, .data, .data, .data, .sentinel, .sentinel, .pinned], laidTests := true, laidLooks := .later }
def PropsPlaysUptoCardSaid : Prop := Claim7.holds Tryz.pinned (.plain (OpenSpec.upto propsPlaysSpec)) propsPlaysUptoCard

/-- THE SECOND FORM's CARD OF 'pumicelaw14.PropsParses'. -/
def propsParsesUptoCard : Claim7 := { stood := { row := propsParsesUptoRow, standIns := [], harness := (true, "5073e521733e0d4aadbd2993afe9d363fc5f3ed24e86c13892bea69a8cccabd3"), looks := true }, kinds := [], alts := [], laidByText := true, laidKinds := [.data, .data, .data, .data, .sentinel, .sentinel, .pinned], laidTests := true, laidLooks := .later }
def PropsParsesUptoCardSaid : Prop := Claim7.holds Tryz.pinned (.plain (OpenSpec.upto propsParsesSpec)) propsParsesUptoCard

/-- THE SECOND FORM's CARD OF 'pumicelaw14.PropsSums'. -/
def propsSumsUptoCard : Claim7 := { stood := { row := propsSumsUptoRow, standIns := [], harness := (true, "5073e521733e0d4aadbd2993afe9d363fc5f3ed24e86c13892bea69a8cccabd3"), looks := true }, kinds := [], alts := [], laidByText := true, laidKinds := [.data, .data, .data, .data, .sentinel, .sentinel, .pinned], laidTests := true, laidLooks := .later }
def PropsSumsUptoCardSaid : Prop := Claim7.holds Tryz.pinned (.plain (OpenSpec.upto propsSumsSpec)) propsSumsUptoCard
end Rows
end Go.Proofs.YtlpnggaeepjjfaaGreatDoor
