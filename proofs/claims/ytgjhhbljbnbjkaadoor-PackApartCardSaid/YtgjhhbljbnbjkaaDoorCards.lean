/-
  DERIVED. GIVEN WITH THE SEED: THE CARDS: each row of YtgjhhbljbnbjkaaDoorRows.lean that lists a variable, with what it lists TIED to the program's text (the seventh form; the later family's looks); each row that meets fmt, with fmt's text TOLD by the authors' own Lean function (tested against real Go, not proved from fmt's source: count such statements apart). THE CARD IS WHAT COUNTS. Prove the row's statement (the work); the ties are given (YtgjhhbljbnbjkaaDoorTie.lean); close each card by the builder's one call (the guide's Derived/Test/ToyasCard.lean, 'card_holds'). Laid BY PROGRAM, IN A SANDBOX (cutbox-door.mjs). By AI agents, Wed Nov 11 2026. No macro, syntax, notation, axiom, sorry.
-/
import Derived.Test.YtgjhhbljbnbjkaaDoorRows
import GoSem.ClaimSeven
namespace Go.Proofs.YtgjhhbljbnbjkaaDoor
namespace Rows

/-- THE TIED CARD OF 'cisternlaw03.PackFrames'. -/
def packFramesCard : Claim7 := { stood := { row := packFramesRow, standIns := [], harness := (true, "222f4095d7ad2a0cbbe1ff759a6f9791e58b9dcc698075d28525947561e3aa97"), looks := false }, kinds := [], alts := [], laidByText := true, laidKinds := [.data, .pinned], laidTests := true, laidLooks := .later }
def PackFramesCardSaid : Prop := Claim7.holds Tryd.pinned (.plain (OpenSpec.ofChange packFramesSpec)) packFramesCard

/-- THE TIED CARD OF 'cisternlaw03.PackSealed'. -/
def packSealedCard : Claim7 := { stood := { row := packSealedRow, standIns := [], harness := (true, "222f4095d7ad2a0cbbe1ff759a6f9791e58b9dcc698075d28525947561e3aa97"), looks := false }, kinds := [], alts := [], laidByText := true, laidKinds := [.data, .pinned], laidTests := true, laidLooks := .later }
def PackSealedCardSaid : Prop := Claim7.holds Tryd.pinned (.plain (OpenSpec.ofChange packSealedSpec)) packSealedCard

/-- THE TIED CARD OF 'cisternlaw03.PackApart'. -/
def packApartCard : Claim7 := { stood := { row := packApartRow, standIns := [], harness := (true, "222f4095d7ad2a0cbbe1ff759a6f9791e58b9dcc698075d28525947561e3aa97"), looks := false }, kinds := [], alts := [], laidByText := true, laidKinds := [.data, .pinned], laidTests := true, laidLooks := .later }
def PackApartCardSaid : Prop := Claim7.holds Tryd.pinned (.plain (OpenSpec.ofChange packApartSpec)) packApartCard

/-- THE SECOND FORM's CARD OF 'cisternlaw03.PackFrames'. -/
def packFramesUptoCard : Claim7 := { stood := { row := packFramesUptoRow, standIns := [], harness := (true, "222f4095d7ad2a0cbbe1ff759a6f9791e58b9dcc698075d28525947561e3aa97"), looks := false }, kinds := [], alts := [], laidByText := true, laidKinds := [.data, .pinned], laidTests := true, laidLooks := .later }
def PackFramesUptoCardSaid : Prop := Claim7.holds Tryd.pinned (.plain (OpenSpec.upto packFramesSpec)) packFramesUptoCard

/-- THE SECOND FORM's CARD OF 'cisternlaw03.PackSealed'. -/
def packSealedUptoCard : Claim7 := { stood := { row := packSealedUptoRow, standIns := [], harness := (true, "222f4095d7ad2a0cbbe1ff759a6f9791e58b9dcc698075d28525947561e3aa97"), looks := false }, kinds := [], alts := [], laidByText := true, laidKinds := [.data, .pinned], laidTests := true, laidLooks := .later }
def PackSealedUptoCardSaid : Prop := Claim7.holds Tryd.pinned (.plain (OpenSpec.upto packSealedSpec)) packSealedUptoCard

/-- THE SECOND FORM's CARD OF 'cisternlaw03.PackApart'. -/
def packApartUptoCard : Claim7 := { stood := { row := packApartUptoRow, standIns := [], harness := (true, "222f4095d7ad2a0cbbe1ff759a6f9791e58b9dcc698075d28525947561e3aa97"), looks := false }, kinds := [], alts := [], laidByText := true, laidKinds := [.data, .pinned], laidTests := true, laidLooks := .later }
def PackApartUptoCardSaid : Prop := Claim7.holds Tryd.pinned (.plain (OpenSpec.upto packApartSpec)) packApartUptoCard
end Rows
end Go.Proofs.YtgjhhbljbnbjkaaDoor
