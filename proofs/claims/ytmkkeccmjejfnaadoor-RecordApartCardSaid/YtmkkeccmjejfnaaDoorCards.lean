/-
  DERIVED. GIVEN WITH THE SEED: THE CARDS: each row of YtmkkeccmjejfnaaDoorRows.lean that lists a variable, with what it lists TIED to the program's text (the seventh form; the later family's looks); each row that meets fmt, with fmt's text TOLD by the authors' own Lean function (tested against real Go, not proved from fmt's source: count such statements apart). THE CARD IS WHAT COUNTS. Prove the row's statement (the work); the ties are given (YtmkkeccmjejfnaaDoorTie.lean); close each card by the builder's one call (the guide's Derived/Test/ToyasCard.lean, 'card_holds'). Laid BY PROGRAM, IN A SANDBOX (cutbox-door.mjs). By AI agents, Wed Nov 11 2026. No macro, syntax, notation, axiom, sorry.
-/
import Derived.Test.YtmkkeccmjejfnaaDoorRows
import GoSem.ClaimSeven
namespace Go.Proofs.YtmkkeccmjejfnaaDoor
namespace Rows

/-- THE TIED CARD OF 'cisternlaw07.RecordEncodes'. -/
def recordEncodesCard : Claim7 := { stood := { row := recordEncodesRow, standIns := [], harness := (true, "c15ab5cf0473f0ddc1e8fb37ec0b59fd2c1a6d4f9365514101df1a7cd950c1f7"), looks := false }, kinds := [], alts := [], laidByText := true, laidKinds := [.data, .pinned], laidTests := true, laidLooks := .later }
def RecordEncodesCardSaid : Prop := Claim7.holds Tryd.pinned (.plain (OpenSpec.ofChange recordEncodesSpec)) recordEncodesCard

/-- THE TIED CARD OF 'cisternlaw07.RecordDecodes'. -/
def recordDecodesCard : Claim7 := { stood := { row := recordDecodesRow, standIns := [], harness := (true, "c15ab5cf0473f0ddc1e8fb37ec0b59fd2c1a6d4f9365514101df1a7cd950c1f7"), looks := false }, kinds := [], alts := [], laidByText := true, laidKinds := [.data, .pinned], laidTests := true, laidLooks := .later }
def RecordDecodesCardSaid : Prop := Claim7.holds Tryd.pinned (.plain (OpenSpec.ofChange recordDecodesSpec)) recordDecodesCard

/-- THE TIED CARD OF 'cisternlaw07.RecordPairs'. -/
def recordPairsCard : Claim7 := { stood := { row := recordPairsRow, standIns := [], harness := (true, "c15ab5cf0473f0ddc1e8fb37ec0b59fd2c1a6d4f9365514101df1a7cd950c1f7"), looks := false }, kinds := [], alts := [], laidByText := true, laidKinds := [.data, .pinned], laidTests := true, laidLooks := .later }
def RecordPairsCardSaid : Prop := Claim7.holds Tryd.pinned (.plain (OpenSpec.ofChange recordPairsSpec)) recordPairsCard

/-- THE TIED CARD OF 'cisternlaw07.RecordTurned'. -/
def recordTurnedCard : Claim7 := { stood := { row := recordTurnedRow, standIns := [], harness := (true, "c15ab5cf0473f0ddc1e8fb37ec0b59fd2c1a6d4f9365514101df1a7cd950c1f7"), looks := false }, kinds := [], alts := [], laidByText := true, laidKinds := [.data, .pinned], laidTests := true, laidLooks := .later }
def RecordTurnedCardSaid : Prop := Claim7.holds Tryd.pinned (.plain (OpenSpec.ofChange recordTurnedSpec)) recordTurnedCard

/-- THE TIED CARD OF 'cisternlaw07.RecordApart'. -/
def recordApartCard : Claim7 := { stood := { row := recordApartRow, standIns := [], harness := (true, "c15ab5cf0473f0ddc1e8fb37ec0b59fd2c1a6d4f9365514101df1a7cd950c1f7"), looks := false }, kinds := [], alts := [], laidByText := true, laidKinds := [.data, .pinned], laidTests := true, laidLooks := .later }
def RecordApartCardSaid : Prop := Claim7.holds Tryd.pinned (.plain (OpenSpec.ofChange recordApartSpec)) recordApartCard

/-- THE TIED CARD OF 'cisternlaw07.RecordKinds'. -/
def recordKindsCard : Claim7 := { stood := { row := recordKindsRow, standIns := [], harness := (true, "c15ab5cf0473f0ddc1e8fb37ec0b59fd2c1a6d4f9365514101df1a7cd950c1f7"), looks := false }, kinds := [], alts := [], laidByText := true, laidKinds := [.data, .pinned], laidTests := true, laidLooks := .later }
def RecordKindsCardSaid : Prop := Claim7.holds Tryd.pinned (.plain (OpenSpec.ofChange recordKindsSpec)) recordKindsCard

/-- THE TIED CARD OF 'cisternlaw07.RecordBack'. -/
def recordBackCard : Claim7 := { stood := { row := recordBackRow, standIns := [], harness := (true, "c15ab5cf0473f0ddc1e8fb37ec0b59fd2c1a6d4f9365514101df1a7cd950c1f7"), looks := false }, kinds := [], alts := [], laidByText := true, laidKinds := [.data, .pinned], laidTests := true, laidLooks := .later }
def RecordBackCardSaid : Prop := Claim7.holds Tryd.pinned (.plain (OpenSpec.ofChange recordBackSpec)) recordBackCard

/-- THE SECOND FORM's CARD OF 'cisternlaw07.RecordEncodes'. -/
def recordEncodesUptoCard : Claim7 := { stood := { row := recordEncodesUptoRow, standIns := [], harness := (true, "c15ab5cf0473f0ddc1e8fb37ec0b59fd2c1a6d4f9365514101df1a7cd950c1f7"), looks := false }, kinds := [], alts := [], laidByText := true, laidKinds := [.data, .pinned], laidTests := true, laidLooks := .later }
def RecordEncodesUptoCardSaid : Prop := Claim7.holds Tryd.pinned (.plain (OpenSpec.upto recordEncodesSpec)) recordEncodesUptoCard

/-- THE SECOND FORM's CARD OF 'cisternlaw07.RecordDecodes'. -/
def recordDecodesUptoCard : Claim7 := { stood := { row := recordDecodesUptoRow, standIns := [], harness := (true, "c15ab5cf0473f0ddc1e8fb37ec0b59fd2c1a6d4f9365514101df1a7cd950c1f7"), looks := false }, kinds := [], alts := [], laidByText := true, laidKinds := [.data, .pinned], laidTests := true, laidLooks := .later }
def RecordDecodesUptoCardSaid : Prop := Claim7.holds Tryd.pinned (.plain (OpenSpec.upto recordDecodesSpec)) recordDecodesUptoCard

/-- THE SECOND FORM's CARD OF 'cisternlaw07.RecordPairs'. -/
def recordPairsUptoCard : Claim7 := { stood := { row := recordPairsUptoRow, standIns := [], harness := (true, "c15ab5cf0473f0ddc1e8fb37ec0b59fd2c1a6d4f9365514101df1a7cd950c1f7"), looks := false }, kinds := [], alts := [], laidByText := true, laidKinds := [.data, .pinned], laidTests := true, laidLooks := .later }
def RecordPairsUptoCardSaid : Prop := Claim7.holds Tryd.pinned (.plain (OpenSpec.upto recordPairsSpec)) recordPairsUptoCard

/-- THE SECOND FORM's CARD OF 'cisternlaw07.RecordTurned'. -/
def recordTurnedUptoCard : Claim7 := { stood := { row := recordTurnedUptoRow, standIns := [], harness := (true, "c15ab5cf0473f0ddc1e8fb37ec0b59fd2c1a6d4f9365514101df1a7cd950c1f7"), looks := false }, kinds := [], alts := [], laidByText := true, laidKinds := [.data, .pinned], laidTests := true, laidLooks := .later }
def RecordTurnedUptoCardSaid : Prop := Claim7.holds Tryd.pinned (.plain (OpenSpec.upto recordTurnedSpec)) recordTurnedUptoCard

/-- THE SECOND FORM's CARD OF 'cisternlaw07.RecordApart'. -/
def recordApartUptoCard : Claim7 := { stood := { row := recordApartUptoRow, standIns := [], harness := (true, "c15ab5cf0473f0ddc1e8fb37ec0b59fd2c1a6d4f9365514101df1a7cd950c1f7"), looks := false }, kinds := [], alts := [], laidByText := true, laidKinds := [.data, .pinned], laidTests := true, laidLooks := .later }
def RecordApartUptoCardSaid : Prop := Claim7.holds Tryd.pinned (.plain (OpenSpec.upto recordApartSpec)) recordApartUptoCard

/-- THE SECOND FORM's CARD OF 'cisternlaw07.RecordKinds'. -/
def recordKindsUptoCard : Claim7 := { stood := { row := recordKindsUptoRow, standIns := [], harness := (true, "c15ab5cf0473f0ddc1e8fb37ec0b59fd2c1a6d4f9365514101df1a7cd950c1f7"), looks := false }, kinds := [], alts := [], laidByText := true, laidKinds := [.data, .pinned], laidTests := true, laidLooks := .later }
def RecordKindsUptoCardSaid : Prop := Claim7.holds Tryd.pinned (.plain (OpenSpec.upto recordKindsSpec)) recordKindsUptoCard

/-- THE SECOND FORM's CARD OF 'cisternlaw07.RecordBack'. -/
def recordBackUptoCard : Claim7 := { stood := { row := recordBackUptoRow, standIns := [], harness := (true, "c15ab5cf0473f0ddc1e8fb37ec0b59fd2c1a6d4f9365514101df1a7cd950c1f7"), looks := false }, kinds := [], alts := [], laidByText := true, laidKinds := [.data, .pinned], laidTests := true, laidLooks := .later }
def RecordBackUptoCardSaid : Prop := Claim7.holds Tryd.pinned (.plain (OpenSpec.upto recordBackSpec)) recordBackUptoCard
end Rows
end Go.Proofs.YtmkkeccmjejfnaaDoor
