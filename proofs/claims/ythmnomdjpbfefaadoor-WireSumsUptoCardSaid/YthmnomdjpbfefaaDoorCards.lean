/-
  DERIVED. GIVEN WITH THE SEED: THE CARDS: each row of YthmnomdjpbfefaaDoorRows.lean that lists a variable, with what it lists TIED to the program's text (the seventh form; the later family's looks); each row that meets fmt, with fmt's text TOLD by the authors' own Lean function (tested against real Go, not proved from fmt's source: count such statements apart). THE CARD IS WHAT COUNTS. Prove the row's statement (the work); the ties are given (YthmnomdjpbfefaaDoorTie.lean); close each card by the builder's one call (the guide's Derived/Test/ToyasCard.lean, 'card_holds'). Laid BY PROGRAM, IN A SANDBOX (cutbox-door.mjs). By AI agents, Wed Nov 11 2026. No macro, syntax, notation, axiom, sorry.
-/
import Derived.Test.YthmnomdjpbfefaaDoorRows
import GoSem.ClaimSeven
namespace Go.Proofs.YthmnomdjpbfefaaDoor
namespace Rows

/-- THE TIED CARD OF 'kilnlaw1.WireSums'. -/
def wireSumsCard : Claim7 := { stood := { row := wireSumsRow, standIns := [], harness := (true, "5d41a574556d6ffe10da9008eb4f4c216b7711e2e3ad641fca8e29cd44a88b56"), looks := false }, kinds := [], alts := [], laidByText := true, laidKinds := [.data], laidTests := true, laidLooks := .later }
def WireSumsCardSaid : Prop := Claim7.holds Tryd.pinned (.plain (OpenSpec.ofChange wireSumsSpec)) wireSumsCard

/-- THE TIED CARD OF 'kilnlaw1.WireTells'. -/
def wireTellsCard : Claim7 := { stood := { row := wireTellsRow, standIns := [], harness := (true, "5d41a574556d6ffe10da9008eb4f4c216b7711e2e3ad641fca8e29cd44a88b56"), looks := false }, kinds := [], alts := [], laidByText := true, laidKinds := [.data], laidTests := true, laidLooks := .later }
def WireTellsCardSaid : Prop := Claim7.holds Tryd.pinned (.plain (OpenSpec.ofChange wireTellsSpec)) wireTellsCard

/-- THE TIED CARD OF 'kilnlaw1.WireUnlike'. -/
def wireUnlikeCard : Claim7 := { stood := { row := wireUnlikeRow, standIns := [], harness := (true, "5d41a574556d6ffe10da9008eb4f4c216b7711e2e3ad641fca8e29cd44a88b56"), looks := false }, kinds := [], alts := [], laidByText := true, laidKinds := [.data], laidTests := true, laidLooks := .later }
def WireUnlikeCardSaid : Prop := Claim7.holds Tryd.pinned (.plain (OpenSpec.ofChange wireUnlikeSpec)) wireUnlikeCard

/-- THE TIED CARD OF 'kilnlaw1.WireNumbers'. -/
def wireNumbersCard : Claim7 := { stood := { row := wireNumbersRow, standIns := [], harness := (true, "5d41a574556d6ffe10da9008eb4f4c216b7711e2e3ad641fca8e29cd44a88b56"), looks := false }, kinds := [], alts := [], laidByText := true, laidKinds := [.data], laidTests := true, laidLooks := .later }
def WireNumbersCardSaid : Prop := Claim7.holds Tryd.pinned (.plain (OpenSpec.ofChange wireNumbersSpec)) wireNumbersCard

/-- THE TIED CARD OF 'kilnlaw1.WireStrings'. -/
def wireStringsCard : Claim7 := { stood := { row := wireStringsRow, standIns := [], harness := (true, "5d41a574556d6ffe10da9008eb4f4c216b7711e2e3ad641fca8e29cd44a88b56"), looks := false }, kinds := [], alts := [], laidByText := true, laidKinds := [.data], laidTests := true, laidLooks := .later }
def WireStringsCardSaid : Prop := Claim7.holds Tryd.pinned (.plain (OpenSpec.ofChange wireStringsSpec)) wireStringsCard

/-- THE TIED CARD OF 'kilnlaw1.WirePlays'. -/
def wirePlaysCard : Claim7 := { stood := { row := wirePlaysRow, standIns := [], harness := (true, "5d41a574556d6ffe10da9008eb4f4c216b7711e2e3ad641fca8e29cd44a88b56"), looks := false }, kinds := [], alts := [], laidByText := true, laidKinds := [.data], laidTests := true, laidLooks := .later }
def WirePlaysCardSaid : Prop := Claim7.holds Tryd.pinned (.plain (OpenSpec.ofChange wirePlaysSpec)) wirePlaysCard

/-- THE TIED CARD OF 'kilnlaw1.WireBack'. -/
def wireBackCard : Claim7 := { stood := { row := wireBackRow, standIns := [], harness := (true, "5d41a574556d6ffe10da9008eb4f4c216b7711e2e3ad641fca8e29cd44a88b56"), looks := false }, kinds := [], alts := [], laidByText := true, laidKinds := [.data], laidTests := true, laidLooks := .later }
def WireBackCardSaid : Prop := Claim7.holds Tryd.pinned (.plain (OpenSpec.ofChange wireBackSpec)) wireBackCard

/-- THE TIED CARD OF 'kilnlaw1.WireOneWay'. -/
def wireOneWayCard : Claim7 := { stood := { row := wireOneWayRow, standIns := [], harness := (true, "5d41a574556d6ffe10da9008eb4f4c216b7711e2e3ad641fca8e29cd44a88b56"), looks := false }, kinds := [], alts := [], laidByText := true, laidKinds := [.data], laidTests := true, laidLooks := .later }
def WireOneWayCardSaid : Prop := Claim7.holds Tryd.pinned (.plain (OpenSpec.ofChange wireOneWaySpec)) wireOneWayCard

/-- THE TIED CARD OF 'kilnlaw1.WireCuts'. -/
def wireCutsCard : Claim7 := { stood := { row := wireCutsRow, standIns := [], harness := (true, "5d41a574556d6ffe10da9008eb4f4c216b7711e2e3ad641fca8e29cd44a88b56"), looks := false }, kinds := [], alts := [], laidByText := true, laidKinds := [.data], laidTests := true, laidLooks := .later }
def WireCutsCardSaid : Prop := Claim7.holds Tryd.pinned (.plain (OpenSpec.ofChange wireCutsSpec)) wireCutsCard

/-- THE TIED CARD OF 'kilnlaw1.WireOwn'. -/
def wireOwnCard : Claim7 := { stood := { row := wireOwnRow, standIns := [], harness := (true, "5d41a574556d6ffe10da9008eb4f4c216b7711e2e3ad641fca8e29cd44a88b56"), looks := false }, kinds := [], alts := [], laidByText := true, laidKinds := [.data], laidTests := true, laidLooks := .later }
def WireOwnCardSaid : Prop := Claim7.holds Tryd.pinned (.plain (OpenSpec.ofChange wireOwnSpec)) wireOwnCard

/-- THE TIED CARD OF 'kilnlaw1.WireAgain'. -/
def wireAgainCard : Claim7 := { stood := { row := wireAgainRow, standIns := [], harness := (true, "5d41a574556d6ffe10da9008eb4f4c216b7711e2e3ad641fca8e29cd44a88b56"), looks := false }, kinds := [], alts := [], laidByText := true, laidKinds := [.data], laidTests := true, laidLooks := .later }
def WireAgainCardSaid : Prop := Claim7.holds Tryd.pinned (.plain (OpenSpec.ofChange wireAgainSpec)) wireAgainCard

/-- THE TIED CARD OF 'kilnlaw1.WireLent'. -/
def wireLentCard : Claim7 := { stood := { row := wireLentRow, standIns := [], harness := (true, "5d41a574556d6ffe10da9008eb4f4c216b7711e2e3ad641fca8e29cd44a88b56"), looks := false }, kinds := [], alts := [], laidByText := true, laidKinds := [.data], laidTests := true, laidLooks := .later }
def WireLentCardSaid : Prop := Claim7.holds Tryd.pinned (.plain (OpenSpec.ofChange wireLentSpec)) wireLentCard

/-- THE TIED CARD OF 'kilnlaw1.WireMany'. -/
def wireManyCard : Claim7 := { stood := { row := wireManyRow, standIns := [], harness := (true, "5d41a574556d6ffe10da9008eb4f4c216b7711e2e3ad641fca8e29cd44a88b56"), looks := false }, kinds := [], alts := [], laidByText := true, laidKinds := [.data], laidTests := true, laidLooks := .later }
def WireManyCardSaid : Prop := Claim7.holds Tryd.pinned (.plain (OpenSpec.ofChange wireManySpec)) wireManyCard

/-- THE SECOND FORM's CARD OF 'kilnlaw1.WireSums'. -/
def wireSumsUptoCard : Claim7 := { stood := { row := wireSumsUptoRow, standIns := [], harness := (true, "5d41a574556d6ffe10da9008eb4f4c216b7711e2e3ad641fca8e29cd44a88b56"), looks := false }, kinds := [], alts := [], laidByText := true, laidKinds := [.data], laidTests := true, laidLooks := .later }
def WireSumsUptoCardSaid : Prop := Claim7.holds Tryd.pinned (.plain (OpenSpec.upto wireSumsSpec)) wireSumsUptoCard

/-- THE SECOND FORM's CARD OF 'kilnlaw1.WireTells'. -/
def wireTellsUptoCard : Claim7 := { stood := { row := wireTellsUptoRow, standIns := [], harness := (true, "5d41a574556d6ffe10da9008eb4f4c216b7711e2e3ad641fca8e29cd44a88b56"), looks := false }, kinds := [], alts := [], laidByText := true, laidKinds := [.data], laidTests := true, laidLooks := .later }
def WireTellsUptoCardSaid : Prop := Claim7.holds Tryd.pinned (.plain (OpenSpec.upto wireTellsSpec)) wireTellsUptoCard

/-- THE SECOND FORM's CARD OF 'kilnlaw1.WireUnlike'. -/
def wireUnlikeUptoCard : Claim7 := { stood := { row := wireUnlikeUptoRow, standIns := [], harness := (true, "5d41a574556d6ffe10da9008eb4f4c216b7711e2e3ad641fca8e29cd44a88b56"), looks := false }, kinds := [], alts := [], laidByText := true, laidKinds := [.data], laidTests := true, laidLooks := .later }
def WireUnlikeUptoCardSaid : Prop := Claim7.holds Tryd.pinned (.plain (OpenSpec.upto wireUnlikeSpec)) wireUnlikeUptoCard

/-- THE SECOND FORM's CARD OF 'kilnlaw1.WireNumbers'. -/
def wireNumbersUptoCard : Claim7 := { stood := { row := wireNumbersUptoRow, standIns := [], harness := (true, "5d41a574556d6ffe10da9008eb4f4c216b7711e2e3ad641fca8e29cd44a88b56"), looks := false }, kinds := [], alts := [], laidByText := true, laidKinds := [.data], laidTests := true, laidLooks := .later }
def WireNumbersUptoCardSaid : Prop := Claim7.holds Tryd.pinned (.plain (OpenSpec.upto wireNumbersSpec)) wireNumbersUptoCard

/-- THE SECOND FORM's CARD OF 'kilnlaw1.WireStrings'. -/
def wireStringsUptoCard : Claim7 := { stood := { row := wireStringsUptoRow, standIns := [], harness := (true, "5d41a574556d6ffe10da9008eb4f4c216b7711e2e3ad641fca8e29cd44a88b56"), looks := false }, kinds := [], alts := [], laidByText := true, laidKinds := [.data], laidTests := true, laidLooks := .later }
def WireStringsUptoCardSaid : Prop := Claim7.holds Tryd.pinned (.plain (OpenSpec.upto wireStringsSpec)) wireStringsUptoCard

/-- THE SECOND FORM's CARD OF 'kilnlaw1.WirePlays'. -/
def wirePlaysUptoCard : Claim7 := { stood := { row := wirePlaysUptoRow, standIns := [], harness := (true, "5d41a574556d6ffe10da9008eb4f4c216b7711e2e3ad641fca8e29cd44a88b56"), looks := false }, kinds := [], alts := [], laidByText := true, laidKinds := [.data], laidTests := true, laidLooks := .later }
def WirePlaysUptoCardSaid : Prop := Claim7.holds Tryd.pinned (.plain (OpenSpec.upto wirePlaysSpec)) wirePlaysUptoCard

/-- THE SECOND FORM's CARD OF 'kilnlaw1.WireBack'. -/
def wireBackUptoCard : Claim7 := { stood := { row := wireBackUptoRow, standIns := [], harness := (true, "5d41a574556d6ffe10da9008eb4f4c216b7711e2e3ad641fca8e29cd44a88b56"), looks := false }, kinds := [], alts := [], laidByText := true, laidKinds := [.data], laidTests := true, laidLooks := .later }
def WireBackUptoCardSaid : Prop := Claim7.holds Tryd.pinned (.plain (OpenSpec.upto wireBackSpec)) wireBackUptoCard

/-- THE SECOND FORM's CARD OF 'kilnlaw1.WireOneWay'. -/
def wireOneWayUptoCard : Claim7 := { stood := { row := wireOneWayUptoRow, standIns := [], harness := (true, "5d41a574556d6ffe10da9008eb4f4c216b7711e2e3ad641fca8e29cd44a88b56"), looks := false }, kinds := [], alts := [], laidByText := true, laidKinds := [.data], laidTests := true, laidLooks := .later }
def WireOneWayUptoCardSaid : Prop := Claim7.holds Tryd.pinned (.plain (OpenSpec.upto wireOneWaySpec)) wireOneWayUptoCard

/-- THE SECOND FORM's CARD OF 'kilnlaw1.WireCuts'. -/
def wireCutsUptoCard : Claim7 := { stood := { row := wireCutsUptoRow, standIns := [], harness := (true, "5d41a574556d6ffe10da9008eb4f4c216b7711e2e3ad641fca8e29cd44a88b56"), looks := false }, kinds := [], alts := [], laidByText := true, laidKinds := [.data], laidTests := true, laidLooks := .later }
def WireCutsUptoCardSaid : Prop := Claim7.holds Tryd.pinned (.plain (OpenSpec.upto wireCutsSpec)) wireCutsUptoCard

/-- THE SECOND FORM's CARD OF 'kilnlaw1.WireOwn'. -/
def wireOwnUptoCard : Claim7 := { stood := { row := wireOwnUptoRow, standIns := [], harness := (true, "5d41a574556d6ffe10da9008eb4f4c216b7711e2e3ad641fca8e29cd44a88b56"), looks := false }, kinds := [], alts := [], laidByText := true, laidKinds := [.data], laidTests := true, laidLooks := .later }
def WireOwnUptoCardSaid : Prop := Claim7.holds Tryd.pinned (.plain (OpenSpec.upto wireOwnSpec)) wireOwnUptoCard

/-- THE SECOND FORM's CARD OF 'kilnlaw1.WireAgain'. -/
def wireAgainUptoCard : Claim7 := { stood := { row := wireAgainUptoRow, standIns := [], harness := (true, "5d41a574556d6ffe10da9008eb4f4c216b7711e2e3ad641fca8e29cd44a88b56"), looks := false }, kinds := [], alts := [], laidByText := true, laidKinds := [.data], laidTests := true, laidLooks := .later }
def WireAgainUptoCardSaid : Prop := Claim7.holds Tryd.pinned (.plain (OpenSpec.upto wireAgainSpec)) wireAgainUptoCard

/-- THE SECOND FORM's CARD OF 'kilnlaw1.WireLent'. -/
def wireLentUptoCard : Claim7 := { stood := { row := wireLentUptoRow, standIns := [], harness := (true, "5d41a574556d6ffe10da9008eb4f4c216b7711e2e3ad641fca8e29cd44a88b56"), looks := false }, kinds := [], alts := [], laidByText := true, laidKinds := [.data], laidTests := true, laidLooks := .later }
def WireLentUptoCardSaid : Prop := Claim7.holds Tryd.pinned (.plain (OpenSpec.upto wireLentSpec)) wireLentUptoCard

/-- THE SECOND FORM's CARD OF 'kilnlaw1.WireMany'. -/
def wireManyUptoCard : Claim7 := { stood := { row := wireManyUptoRow, standIns := [], harness := (true, "5d41a574556d6ffe10da9008eb4f4c216b7711e2e3ad641fca8e29cd44a88b56"), looks := false }, kinds := [], alts := [], laidByText := true, laidKinds := [.data], laidTests := true, laidLooks := .later }
def WireManyUptoCardSaid : Prop := Claim7.holds Tryd.pinned (.plain (OpenSpec.upto wireManySpec)) wireManyUptoCard
end Rows
end Go.Proofs.YthmnomdjpbfefaaDoor
