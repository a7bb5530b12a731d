/-
  DERIVED. GIVEN WITH THE SEED: THE CARDS: each row of YtcallfgihohldaaDoorRows.lean that lists a variable, with what it lists TIED to the program's text (the seventh form; the later family's looks); each row that meets fmt, with fmt's text TOLD by the authors' own Lean function (tested against real Go, not proved from fmt's source: count such statements apart). THE CARD IS WHAT COUNTS. Prove the row's statement (the work); the ties are given (YtcallfgihohldaaDoorTie.lean); close each card by the builder's one call (the guide's Derived/Test/ToyasCard.lean, 'card_holds'). Laid BY PROGRAM, IN A SANDBOX (cutbox-door.mjs). By AI agents, Wed Nov 11 2026. No macro, syntax, notation, axiom, sorry.
-/
import Derived.Test.YtcallfgihohldaaDoorRows
import GoSem.ClaimSeven
namespace Go.Proofs.YtcallfgihohldaaDoor
namespace Rows

/-- THE TIED CARD OF 'cisternlaw02.BlobWhole'. -/
def blobWholeCard : Claim7 := { stood := { row := blobWholeRow, standIns := [], harness := (true, "833550b030b577971ef4dab4224ff1ba71797e44fe1c3dbc49f73c8cd8fedbe5"), looks := false }, kinds := [], alts := [], laidByText := true, laidKinds := [.data, .pinned], laidTests := true, laidLooks := .later }
def BlobWholeCardSaid : Prop := Claim7.holds Tryd.pinned (.plain (OpenSpec.ofChange blobWholeSpec)) blobWholeCard

/-- THE TIED CARD OF 'cisternlaw02.BlobNames'. -/
def blobNamesCard : Claim7 := { stood := { row := blobNamesRow, standIns := [], harness := (true, "833550b030b577971ef4dab4224ff1ba71797e44fe1c3dbc49f73c8cd8fedbe5"), looks := false }, kinds := [], alts := [], laidByText := true, laidKinds := [.data, .pinned], laidTests := true, laidLooks := .later }
def BlobNamesCardSaid : Prop := Claim7.holds Tryd.pinned (.plain (OpenSpec.ofChange blobNamesSpec)) blobNamesCard

/-- THE TIED CARD OF 'cisternlaw02.BlobRoots'. -/
def blobRootsCard : Claim7 := { stood := { row := blobRootsRow, standIns := [], harness := (true, "833550b030b577971ef4dab4224ff1ba71797e44fe1c3dbc49f73c8cd8fedbe5"), looks := false }, kinds := [], alts := [], laidByText := true, laidKinds := [.data, .pinned], laidTests := true, laidLooks := .later }
def BlobRootsCardSaid : Prop := Claim7.holds Tryd.pinned (.plain (OpenSpec.ofChange blobRootsSpec)) blobRootsCard

/-- THE TIED CARD OF 'cisternlaw02.BlobOthers'. -/
def blobOthersCard : Claim7 := { stood := { row := blobOthersRow, standIns := [], harness := (true, "833550b030b577971ef4dab4224ff1ba71797e44fe1c3dbc49f73c8cd8fedbe5"), looks := false }, kinds := [], alts := [], laidByText := true, laidKinds := [.data, .pinned], laidTests := true, laidLooks := .later }
def BlobOthersCardSaid : Prop := Claim7.holds Tryd.pinned (.plain (OpenSpec.ofChange blobOthersSpec)) blobOthersCard

/-- THE TIED CARD OF 'cisternlaw02.BlobOutcomes'. -/
def blobOutcomesCard : Claim7 := { stood := { row := blobOutcomesRow, standIns := [], harness := (true, "833550b030b577971ef4dab4224ff1ba71797e44fe1c3dbc49f73c8cd8fedbe5"), looks := false }, kinds := [], alts := [], laidByText := true, laidKinds := [.data, .pinned], laidTests := true, laidLooks := .later }
def BlobOutcomesCardSaid : Prop := Claim7.holds Tryd.pinned (.plain (OpenSpec.ofChange blobOutcomesSpec)) blobOutcomesCard

/-- THE TIED CARD OF 'cisternlaw02.BlobPlays'. -/
def blobPlaysCard : Claim7 := { stood := { row := blobPlaysRow, standIns := [], harness := (true, "833550b030b577971ef4dab4224ff1ba71797e44fe1c3dbc49f73c8cd8fedbe5"), looks := false }, kinds := [], alts := [], laidByText := true, laidKinds := [.data, .pinned], laidTests := true, laidLooks := .later }
def BlobPlaysCardSaid : Prop := Claim7.holds Tryd.pinned (.plain (OpenSpec.ofChange blobPlaysSpec)) blobPlaysCard

/-- THE SECOND FORM's CARD OF 'cisternlaw02.BlobWhole'. -/
def blobWholeUptoCard : Claim7 := { stood := { row := blobWholeUptoRow, standIns := [], harness := (true, "833550b030b577971ef4dab4224ff1ba71797e44fe1c3dbc49f73c8cd8fedbe5"), looks := false }, kinds := [], alts := [], laidByText := true, laidKinds := [.data, .pinned], laidTests := true, laidLooks := .later }
def BlobWholeUptoCardSaid : Prop := Claim7.holds Tryd.pinned (.plain (OpenSpec.upto blobWholeSpec)) blobWholeUptoCard

/-- THE SECOND FORM's CARD OF 'cisternlaw02.BlobNames'. -/
def blobNamesUptoCard : Claim7 := { stood := { row := blobNamesUptoRow, standIns := [], harness := (true, "833550b030b577971ef4dab4224ff1ba71797e44fe1c3dbc49f73c8cd8fedbe5"), looks := false }, kinds := [], alts := [], laidByText := true, laidKinds := [.data, .pinned], laidTests := true, laidLooks := .later }
def BlobNamesUptoCardSaid : Prop := Claim7.holds Tryd.pinned (.plain (OpenSpec.upto blobNamesSpec)) blobNamesUptoCard

/-- THE SECOND FORM's CARD OF 'cisternlaw02.BlobRoots'. -/
def blobRootsUptoCard : Claim7 := { stood := { row := blobRootsUptoRow, standIns := [], harness := (true, "833550b030b577971ef4dab4224ff1ba71797e44fe1c3dbc49f73c8cd8fedbe5"), looks := false }, kinds := [], alts := [], laidByText := true, laidKinds := [.data, .pinned], laidTests := true, laidLooks := .later }
def BlobRootsUptoCardSaid : Prop := Claim7.holds Tryd.pinned (.plain (OpenSpec.upto blobRootsSpec)) blobRootsUptoCard

/-- THE SECOND FORM's CARD OF 'cisternlaw02.BlobOthers'. -/
def blobOthersUptoCard : Claim7 := { stood := { row := blobOthersUptoRow, standIns := [], harness := (true, "833550b030b577971ef4dab4224ff1ba71797e44fe1c3dbc49f73c8cd8fedbe5"), looks := false }, kinds := [], alts := [], laidByText := true, laidKinds := [.data, .pinned], laidTests := true, laidLooks := .later }
def BlobOthersUptoCardSaid : Prop := Claim7.holds Tryd.pinned (.plain (OpenSpec.upto blobOthersSpec)) blobOthersUptoCard

/-- THE SECOND FORM's CARD OF 'cisternlaw02.BlobOutcomes'. -/
def blobOutcomesUptoCard : Claim7 := { stood := { row := blobOutcomesUptoRow, standIns := [], harness := (true, "833550b030b577971ef4dab4224ff1ba71797e44fe1c3dbc49f73c8cd8fedbe5"), looks := false }, kinds := [], alts := [], laidByText := true, laidKinds := [.data, .pinned], laidTests := true, laidLooks := .later }
def BlobOutcomesUptoCardSaid : Prop := Claim7.holds Tryd.pinned (.plain (OpenSpec.upto blobOutcomesSpec)) blobOutcomesUptoCard

/-- THE SECOND FORM's CARD OF 'cisternlaw02.BlobPlays'. -/
def blobPlaysUptoCard : Claim7 := { stood := { row := blobPlaysUptoRow, standIns := [], harness := (true, "833550b030b577971ef4dab4224ff1ba71797e44fe1c3dbc49f73c8cd8fedbe5"), looks := false }, kinds := [], alts := [], laidByText := true, laidKinds := [.data, .pinned], laidTests := true, laidLooks := .later }
def BlobPlaysUptoCardSaid : Prop := Claim7.holds Tryd.pinned (.plain (OpenSpec.upto blobPlaysSpec)) blobPlaysUptoCard
end Rows
end Go.Proofs.YtcallfgihohldaaDoor
