/-
  DERIVED. GIVEN WITH THE SEED: THE CARDS: each row of YtenjcgkabmlpkaaDoorRows.lean that lists a variable, with what it lists TIED to the program's text (the seventh form; the later family's looks); each row that meets fmt, with fmt's text TOLD by the authors' own Lean function (tested against real Go, not proved from fmt's source: count such statements apart). THE CARD IS WHAT COUNTS. Prove the row's statement (the work); the ties are given (YtenjcgkabmlpkaaDoorTie.lean); close each card by the builder's one call (the guide's Derived/Test/ToyasCard.lean, 'card_holds'). Laid BY PROGRAM, IN A SANDBOX (cutbox-door.mjs). By AI agents, Wed Nov 11 2026. No macro, syntax, notation, axiom, sorry.
-/
import Derived.Test.YtenjcgkabmlpkaaDoorRows
import GoSem.ClaimSeven
namespace Go.Proofs.YtenjcgkabmlpkaaDoor
namespace Rows

/-- THE TIED CARD OF 'cisternlaw13.RoutePaths'. -/
def routePathsCard : Claim7 := { stood := { row := routePathsRow, standIns := [], harness := (true, "f5f172b0c12224a4fb39e12f52318aa3a8bcd697793195879356b0843417f676"), looks := false }, kinds := [], alts := [], laidByText := true, laidKinds := [.data, .pinned], laidTests := true, laidLooks := .later }
def RoutePathsCardSaid : Prop := Claim7.holds Tryd.pinned (.plain (OpenSpec.ofChange routePathsSpec)) routePathsCard

/-- THE TIED CARD OF 'cisternlaw13.RouteUnder'. -/
def routeUnderCard : Claim7 := { stood := { row := routeUnderRow, standIns := [], harness := (true, "f5f172b0c12224a4fb39e12f52318aa3a8bcd697793195879356b0843417f676"), looks := false }, kinds := [], alts := [], laidByText := true, laidKinds := [.data, .pinned], laidTests := true, laidLooks := .later }
def RouteUnderCardSaid : Prop := Claim7.holds Tryd.pinned (.plain (OpenSpec.ofChange routeUnderSpec)) routeUnderCard

/-- THE TIED CARD OF 'cisternlaw13.RouteParents'. -/
def routeParentsCard : Claim7 := { stood := { row := routeParentsRow, standIns := [], harness := (true, "f5f172b0c12224a4fb39e12f52318aa3a8bcd697793195879356b0843417f676"), looks := false }, kinds := [], alts := [], laidByText := true, laidKinds := [.data, .pinned], laidTests := true, laidLooks := .later }
def RouteParentsCardSaid : Prop := Claim7.holds Tryd.pinned (.plain (OpenSpec.ofChange routeParentsSpec)) routeParentsCard

/-- THE TIED CARD OF 'cisternlaw13.RouteApart'. -/
def routeApartCard : Claim7 := { stood := { row := routeApartRow, standIns := [], harness := (true, "f5f172b0c12224a4fb39e12f52318aa3a8bcd697793195879356b0843417f676"), looks := false }, kinds := [], alts := [], laidByText := true, laidKinds := [.data, .pinned], laidTests := true, laidLooks := .later }
def RouteApartCardSaid : Prop := Claim7.holds Tryd.pinned (.plain (OpenSpec.ofChange routeApartSpec)) routeApartCard

/-- THE TIED CARD OF 'cisternlaw13.RouteNames'. -/
def routeNamesCard : Claim7 := { stood := { row := routeNamesRow, standIns := [], harness := (true, "f5f172b0c12224a4fb39e12f52318aa3a8bcd697793195879356b0843417f676"), looks := false }, kinds := [], alts := [], laidByText := true, laidKinds := [.data, .pinned], laidTests := true, laidLooks := .later }
def RouteNamesCardSaid : Prop := Claim7.holds Tryd.pinned (.plain (OpenSpec.ofChange routeNamesSpec)) routeNamesCard

/-- THE TIED CARD OF 'cisternlaw13.RouteJoins'. -/
def routeJoinsCard : Claim7 := { stood := { row := routeJoinsRow, standIns := [], harness := (true, "f5f172b0c12224a4fb39e12f52318aa3a8bcd697793195879356b0843417f676"), looks := false }, kinds := [], alts := [], laidByText := true, laidKinds := [.data, .pinned], laidTests := true, laidLooks := .later }
def RouteJoinsCardSaid : Prop := Claim7.holds Tryd.pinned (.plain (OpenSpec.ofChange routeJoinsSpec)) routeJoinsCard

/-- THE TIED CARD OF 'cisternlaw13.RouteInverse'. -/
def routeInverseCard : Claim7 := { stood := { row := routeInverseRow, standIns := [], harness := (true, "f5f172b0c12224a4fb39e12f52318aa3a8bcd697793195879356b0843417f676"), looks := false }, kinds := [], alts := [], laidByText := true, laidKinds := [.data, .pinned], laidTests := true, laidLooks := .later }
def RouteInverseCardSaid : Prop := Claim7.holds Tryd.pinned (.plain (OpenSpec.ofChange routeInverseSpec)) routeInverseCard

/-- THE SECOND FORM's CARD OF 'cisternlaw13.RoutePaths'. -/
def routePathsUptoCard : Claim7 := { stood := { row := routePathsUptoRow, standIns := [], harness := (true, "f5f172b0c12224a4fb39e12f52318aa3a8bcd697793195879356b0843417f676"), looks := false }, kinds := [], alts := [], laidByText := true, laidKinds := [.data, .pinned], laidTests := true, laidLooks := .later }
def RoutePathsUptoCardSaid : Prop := Claim7.holds Tryd.pinned (.plain (OpenSpec.upto routePathsSpec)) routePathsUptoCard

/-- THE SECOND FORM's CARD OF 'cisternlaw13.RouteUnder'. -/
def routeUnderUptoCard : Claim7 := { stood := { row := routeUnderUptoRow, standIns := [], harness := (true, "f5f172b0c12224a4fb39e12f52318aa3a8bcd697793195879356b0843417f676"), looks := false }, kinds := [], alts := [], laidByText := true, laidKinds := [.data, .pinned], laidTests := true, laidLooks := .later }
def RouteUnderUptoCardSaid : Prop := Claim7.holds Tryd.pinned (.plain (OpenSpec.upto routeUnderSpec)) routeUnderUptoCard

/-- THE SECOND FORM's CARD OF 'cisternlaw13.RouteParents'. -/
def routeParentsUptoCard : Claim7 := { stood := { row := routeParentsUptoRow, standIns := [], harness := (true, "f5f172b0c12224a4fb39e12f52318aa3a8bcd697793195879356b0843417f676"), looks := false }, kinds := [], alts := [], laidByText := true, laidKinds := [.data, .pinned], laidTests := true, laidLooks := .later }
def RouteParentsUptoCardSaid : Prop := Claim7.holds Tryd.pinned (.plain (OpenSpec.upto routeParentsSpec)) routeParentsUptoCard

/-- THE SECOND FORM's CARD OF 'cisternlaw13.RouteApart'. -/
def routeApartUptoCard : Claim7 := { stood := { row := routeApartUptoRow, standIns := [], harness := (true, "f5f172b0c12224a4fb39e12f52318aa3a8bcd697793195879356b0843417f676"), looks := false }, kinds := [], alts := [], laidByText := true, laidKinds := [.data, .pinned], laidTests := true, laidLooks := .later }
def RouteApartUptoCardSaid : Prop := Claim7.holds Tryd.pinned (.plain (OpenSpec.upto routeApartSpec)) routeApartUptoCard

/-- THE SECOND FORM's CARD OF 'cisternlaw13.RouteNames'. -/
def routeNamesUptoCard : Claim7 := { stood := { row := routeNamesUptoRow, standIns := [], harness := (true, "f5f172b0c12224a4fb39e12f52318aa3a8bcd697793195879356b0843417f676"), looks := false }, kinds := [], alts := [], laidByText := true, laidKinds := [.data, .pinned], laidTests := true, laidLooks := .later }
def RouteNamesUptoCardSaid : Prop := Claim7.holds Tryd.pinned (.plain (OpenSpec.upto routeNamesSpec)) routeNamesUptoCard

/-- THE SECOND FORM's CARD OF 'cisternlaw13.RouteJoins'. -/
def routeJoinsUptoCard : Claim7 := { stood := { row := routeJoinsUptoRow, standIns := [], harness := (true, "f5f172b0c12224a4fb39e12f52318aa3a8bcd697793195879356b0843417f676"), looks := false }, kinds := [], alts := [], laidByText := true, laidKinds := [.data, .pinned], laidTests := true, laidLooks := .later }
def RouteJoinsUptoCardSaid : Prop := Claim7.holds Tryd.pinned (.plain (OpenSpec.upto routeJoinsSpec)) routeJoinsUptoCard

/-- THE SECOND FORM's CARD OF 'cisternlaw13.RouteInverse'. -/
def routeInverseUptoCard : Claim7 := { stood := { row := routeInverseUptoRow, standIns := [], harness := (true, "f5f172b0c12224a4fb39e12f52318aa3a8bcd697793195879356b0843417f676"), looks := false }, kinds := [], alts := [], laidByText := true, laidKinds := [.data, .pinned], laidTests := true, laidLooks := .later }
def RouteInverseUptoCardSaid : Prop := Claim7.holds Tryd.pinned (.plain (OpenSpec.upto routeInverseSpec)) routeInverseUptoCard
end Rows
end Go.Proofs.YtenjcgkabmlpkaaDoor
