/-
  DERIVED. GIVEN WITH THE SEED: THE CARDS: each row of YtaflofcnjakaaaaDoorRows.lean that lists a variable, with what it lists TIED to the program's text (the seventh form; the later family's looks); each row that meets fmt, with fmt's text TOLD by the authors' own Lean function (tested against real Go, not proved from fmt's source: count such statements apart). THE CARD IS WHAT COUNTS. Prove the row's statement (the work); the ties are given (YtaflofcnjakaaaaDoorTie.lean); close each card by the builder's one call (the guide's Derived/Test/ToyasCard.lean, 'card_holds'). Laid BY PROGRAM, IN A SANDBOX (cutbox-door.mjs). By AI agents, Wed Nov 11 2026. No macro, syntax, notation, axiom, sorry.
-/
import Derived.Test.YtaflofcnjakaaaaDoorRows
import GoSem.ClaimSeven
namespace Go.Proofs.YtaflofcnjakaaaaDoor
namespace Rows

/-- THE TIED CARD OF 'kilnlaw18.RootCodes'. -/
def rootCodesCard : Claim7 := { stood := { row := rootCodesRow, standIns := [], harness := (true, "755474dd5379db2422b66ff1e28e9b20caa12600424400f89315bcae8b892069"), looks := false }, kinds := [], alts := [], laidByText := true, laidKinds := [.data], laidTests := true, laidLooks := .later }
def RootCodesCardSaid : Prop := Claim7.holds Tryd.pinned (.plain (OpenSpec.ofChange rootCodesSpec)) rootCodesCard

/-- THE TIED CARD OF 'kilnlaw18.RootWrites'. -/
def rootWritesCard : Claim7 := { stood := { row := rootWritesRow, standIns := [], harness := (true, "755474dd5379db2422b66ff1e28e9b20caa12600424400f89315bcae8b892069"), looks := false }, kinds := [], alts := [], laidByText := true, laidKinds := [.data], laidTests := true, laidLooks := .later }
def RootWritesCardSaid : Prop := Claim7.holds Tryd.pinned (.plain (OpenSpec.ofChange rootWritesSpec)) rootWritesCard

/-- THE TIED CARD OF 'kilnlaw18.RootReads'. -/
def rootReadsCard : Claim7 := { stood := { row := rootReadsRow, standIns := [], harness := (true, "755474dd5379db2422b66ff1e28e9b20caa12600424400f89315bcae8b892069"), looks := false }, kinds := [], alts := [], laidByText := true, laidKinds := [.data], laidTests := true, laidLooks := .later }
def RootReadsCardSaid : Prop := Claim7.holds Tryd.pinned (.plain (OpenSpec.ofChange rootReadsSpec)) rootReadsCard

/-- THE TIED CARD OF 'kilnlaw18.RootBack'. -/
def rootBackCard : Claim7 := { stood := { row := rootBackRow, standIns := [], harness := (true, "755474dd5379db2422b66ff1e28e9b20caa12600424400f89315bcae8b892069"), looks := false }, kinds := [], alts := [], laidByText := true, laidKinds := [.data], laidTests := true, laidLooks := .later }
def RootBackCardSaid : Prop := Claim7.holds Tryd.pinned (.plain (OpenSpec.ofChange rootBackSpec)) rootBackCard

/-- THE TIED CARD OF 'kilnlaw18.RootOneForm'. -/
def rootOneFormCard : Claim7 := { stood := { row := rootOneFormRow, standIns := [], harness := (true, "755474dd5379db2422b66ff1e28e9b20caa12600424400f89315bcae8b892069"), looks := false }, kinds := [], alts := [], laidByText := true, laidKinds := [.data], laidTests := true, laidLooks := .later }
def RootOneFormCardSaid : Prop := Claim7.holds Tryd.pinned (.plain (OpenSpec.ofChange rootOneFormSpec)) rootOneFormCard

/-- THE TIED CARD OF 'kilnlaw18.RootOneBit'. -/
def rootOneBitCard : Claim7 := { stood := { row := rootOneBitRow, standIns := [], harness := (true, "755474dd5379db2422b66ff1e28e9b20caa12600424400f89315bcae8b892069"), looks := false }, kinds := [], alts := [], laidByText := true, laidKinds := [.data], laidTests := true, laidLooks := .later }
def RootOneBitCardSaid : Prop := Claim7.holds Tryd.pinned (.plain (OpenSpec.ofChange rootOneBitSpec)) rootOneBitCard

/-- THE TIED CARD OF 'kilnlaw18.RootElsewhere'. -/
def rootElsewhereCard : Claim7 := { stood := { row := rootElsewhereRow, standIns := [], harness := (true, "755474dd5379db2422b66ff1e28e9b20caa12600424400f89315bcae8b892069"), looks := false }, kinds := [], alts := [], laidByText := true, laidKinds := [.data], laidTests := true, laidLooks := .later }
def RootElsewhereCardSaid : Prop := Claim7.holds Tryd.pinned (.plain (OpenSpec.ofChange rootElsewhereSpec)) rootElsewhereCard

/-- THE TIED CARD OF 'kilnlaw18.RootLent'. -/
def rootLentCard : Claim7 := { stood := { row := rootLentRow, standIns := [], harness := (true, "755474dd5379db2422b66ff1e28e9b20caa12600424400f89315bcae8b892069"), looks := false }, kinds := [], alts := [], laidByText := true, laidKinds := [.data], laidTests := true, laidLooks := .later }
def RootLentCardSaid : Prop := Claim7.holds Tryd.pinned (.plain (OpenSpec.ofChange rootLentSpec)) rootLentCard

/-- THE TIED CARD OF 'kilnlaw18.RootNewest'. -/
def rootNewestCard : Claim7 := { stood := { row := rootNewestRow, standIns := [], harness := (true, "755474dd5379db2422b66ff1e28e9b20caa12600424400f89315bcae8b892069"), looks := false }, kinds := [], alts := [], laidByText := true, laidKinds := [.data], laidTests := true, laidLooks := .later }
def RootNewestCardSaid : Prop := Claim7.holds Tryd.pinned (.plain (OpenSpec.ofChange rootNewestSpec)) rootNewestCard

/-- THE SECOND FORM's CARD OF 'kilnlaw18.RootCodes'. -/
def rootCodesUptoCard : Claim7 := { stood := { row := rootCodesUptoRow, standIns := [], harness := (true, "755474dd5379db2422b66ff1e28e9b20caa12600424400f89315bcae8b892069"), looks := false }, kinds := [], alts := [], laidByText := true, laidKinds := [.data], laidTests := true, laidLooks := .later }
def RootCodesUptoCardSaid : Prop := Claim7.holds Tryd.pinned (.plain (OpenSpec.upto rootCodesSpec)) rootCodesUptoCard

/-- THE SECOND FORM's CARD OF 'kilnlaw18.RootWrites'. -/
def rootWritesUptoCard : Claim7 := { stood := { row := rootWritesUptoRow, standIns := [], harness := (true, "755474dd5379db2422b66ff1e28e9b20caa12600424400f89315bcae8b892069"), looks := false }, kinds := [], alts := [], laidByText := true, laidKinds := [.data], laidTests := true, laidLooks := .later }
def RootWritesUptoCardSaid : Prop := Claim7.holds Tryd.pinned (.plain (OpenSpec.upto rootWritesSpec)) rootWritesUptoCard

/-- THE SECOND FORM's CARD OF 'kilnlaw18.RootReads'. -/
def rootReadsUptoCard : Claim7 := { stood := { row := rootReadsUptoRow, standIns := [], harness := (true, "755474dd5379db2422b66ff1e28e9b20caa12600424400f89315bcae8b892069"), looks := false }, kinds := [], alts := [], laidByText := true, laidKinds := [.data], laidTests := true, laidLooks := .later }
def RootReadsUptoCardSaid : Prop := Claim7.holds Tryd.pinned (.plain (OpenSpec.upto rootReadsSpec)) rootReadsUptoCard

/-- THE SECOND FORM's CARD OF 'kilnlaw18.RootBack'. -/
def rootBackUptoCard : Claim7 := { stood := { row := rootBackUptoRow, standIns := [], harness := (true, "755474dd5379db2422b66ff1e28e9b20caa12600424400f89315bcae8b892069"), looks := false }, kinds := [], alts := [], laidByText := true, laidKinds := [.data], laidTests := true, laidLooks := .later }
def RootBackUptoCardSaid : Prop := Claim7.holds Tryd.pinned (.plain (OpenSpec.upto rootBackSpec)) rootBackUptoCard

/-- THE SECOND FORM's CARD OF 'kilnlaw18.RootOneForm'. -/
def rootOneFormUptoCard : Claim7 := { stood := { row := rootOneFormUptoRow, standIns := [], harness := (true, "755474dd5379db2422b66ff1e28e9b20caa12600424400f89315bcae8b892069"), looks := false }, kinds := [], alts := [], laidByText := true, laidKinds := [.data], laidTests := true, laidLooks := .later }
def RootOneFormUptoCardSaid : Prop := Claim7.holds Tryd.pinned (.plain (OpenSpec.upto rootOneFormSpec)) rootOneFormUptoCard

/-- THE SECOND FORM's CARD OF 'kilnlaw18.RootOneBit'. -/
def rootOneBitUptoCard : Claim7 := { stood := { row := rootOneBitUptoRow, standIns := [], harness := (true, "755474dd5379db2422b66ff1e28e9b20caa12600424400f89315bcae8b892069"), looks := false }, kinds := [], alts := [], laidByText := true, laidKinds := [.data], laidTests := true, laidLooks := .later }
def RootOneBitUptoCardSaid : Prop := Claim7.holds Tryd.pinned (.plain (OpenSpec.upto rootOneBitSpec)) rootOneBitUptoCard

/-- THE SECOND FORM's CARD OF 'kilnlaw18.RootElsewhere'. -/
def rootElsewhereUptoCard : Claim7 := { stood := { row := rootElsewhereUptoRow, standIns := [], harness := (true, "755474dd5379db2422b66ff1e28e9b20caa12600424400f89315bcae8b892069"), looks := false }, kinds := [], alts := [], laidByText := true, laidKinds := [.data], laidTests := true, laidLooks := .later }
def RootElsewhereUptoCardSaid : Prop := Claim7.holds Tryd.pinned (.plain (OpenSpec.upto rootElsewhereSpec)) rootElsewhereUptoCard

/-- THE SECOND FORM's CARD OF 'kilnlaw18.RootLent'. -/
def rootLentUptoCard : Claim7 := { stood := { row := rootLentUptoRow, standIns := [], harness := (true, "755474dd5379db2422b66ff1e28e9b20caa12600424400f89315bcae8b892069"), looks := false }, kinds := [], alts := [], laidByText := true, laidKinds := [.data], laidTests := true, laidLooks := .later }
def RootLentUptoCardSaid : Prop := Claim7.holds Tryd.pinned (.plain (OpenSpec.upto rootLentSpec)) rootLentUptoCard

/-- THE SECOND FORM's CARD OF 'kilnlaw18.RootNewest'. -/
def rootNewestUptoCard : Claim7 := { stood := { row := rootNewestUptoRow, standIns := [], harness := (true, "755474dd5379db2422b66ff1e28e9b20caa12600424400f89315bcae8b892069"), looks := false }, kinds := [], alts := [], laidByText := true, laidKinds := [.data], laidTests := true, laidLooks := .later }
def RootNewestUptoCardSaid : Prop := Claim7.holds Tryd.pinned (.plain (OpenSpec.upto rootNewestSpec)) rootNewestUptoCard
end Rows
end Go.Proofs.YtaflofcnjakaaaaDoor
