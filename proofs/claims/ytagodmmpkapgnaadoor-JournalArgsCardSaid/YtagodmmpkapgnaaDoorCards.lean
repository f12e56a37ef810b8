/-
  DERIVED. GIVEN WITH THE SEED: THE CARDS: each row of YtagodmmpkapgnaaDoorRows.lean that lists a variable, with what it lists TIED to the program's text (the seventh form; the later family's looks); each row that meets fmt, with fmt's text TOLD by the authors' own Lean function (tested against real Go, not proved from fmt's source: count such statements apart). THE CARD IS WHAT COUNTS. Prove the row's statement (the work); the ties are given (YtagodmmpkapgnaaDoorTie.lean); close each card by the builder's one call (the guide's Derived/Test/ToyasCard.lean, 'card_holds'). Laid BY PROGRAM, IN A SANDBOX (cutbox-door.mjs). By AI agents, Wed Nov 11 2026. No macro, syntax, notation, axiom, sorry.
-/
import Derived.Test.YtagodmmpkapgnaaDoorRows
import GoSem.ClaimSeven
namespace Go.Proofs.YtagodmmpkapgnaaDoor
namespace Rows

/-- THE TIED CARD OF 'kilnlaw17.JournalWrites'. -/
def journalWritesCard : Claim7 := { stood := { row := journalWritesRow, standIns := [], harness := (true, "3f413ccf09183aa907d618c6170fd225f41573d2223cae8faa8772a759fa8b4a"), looks := false }, kinds := [], alts := [], laidByText := true, laidKinds := [.data], laidTests := true, laidLooks := .later }
def JournalWritesCardSaid : Prop := Claim7.holds Tryd.pinned (.plain (OpenSpec.ofChange journalWritesSpec)) journalWritesCard

/-- THE TIED CARD OF 'kilnlaw17.JournalReads'. -/
def journalReadsCard : Claim7 := { stood := { row := journalReadsRow, standIns := [], harness := (true, "3f413ccf09183aa907d618c6170fd225f41573d2223cae8faa8772a759fa8b4a"), looks := false }, kinds := [], alts := [], laidByText := true, laidKinds := [.data], laidTests := true, laidLooks := .later }
def JournalReadsCardSaid : Prop := Claim7.holds Tryd.pinned (.plain (OpenSpec.ofChange journalReadsSpec)) journalReadsCard

/-- THE TIED CARD OF 'kilnlaw17.JournalBack'. -/
def journalBackCard : Claim7 := { stood := { row := journalBackRow, standIns := [], harness := (true, "3f413ccf09183aa907d618c6170fd225f41573d2223cae8faa8772a759fa8b4a"), looks := false }, kinds := [], alts := [], laidByText := true, laidKinds := [.data], laidTests := true, laidLooks := .later }
def JournalBackCardSaid : Prop := Claim7.holds Tryd.pinned (.plain (OpenSpec.ofChange journalBackSpec)) journalBackCard

/-- THE TIED CARD OF 'kilnlaw17.JournalLast'. -/
def journalLastCard : Claim7 := { stood := { row := journalLastRow, standIns := [], harness := (true, "3f413ccf09183aa907d618c6170fd225f41573d2223cae8faa8772a759fa8b4a"), looks := false }, kinds := [], alts := [], laidByText := true, laidKinds := [.data], laidTests := true, laidLooks := .later }
def JournalLastCardSaid : Prop := Claim7.holds Tryd.pinned (.plain (OpenSpec.ofChange journalLastSpec)) journalLastCard

/-- THE TIED CARD OF 'kilnlaw17.JournalAgain'. -/
def journalAgainCard : Claim7 := { stood := { row := journalAgainRow, standIns := [], harness := (true, "3f413ccf09183aa907d618c6170fd225f41573d2223cae8faa8772a759fa8b4a"), looks := false }, kinds := [], alts := [], laidByText := true, laidKinds := [.data], laidTests := true, laidLooks := .later }
def JournalAgainCardSaid : Prop := Claim7.holds Tryd.pinned (.plain (OpenSpec.ofChange journalAgainSpec)) journalAgainCard

/-- THE TIED CARD OF 'kilnlaw17.JournalLent'. -/
def journalLentCard : Claim7 := { stood := { row := journalLentRow, standIns := [], harness := (true, "3f413ccf09183aa907d618c6170fd225f41573d2223cae8faa8772a759fa8b4a"), looks := false }, kinds := [], alts := [], laidByText := true, laidKinds := [.data], laidTests := true, laidLooks := .later }
def JournalLentCardSaid : Prop := Claim7.holds Tryd.pinned (.plain (OpenSpec.ofChange journalLentSpec)) journalLentCard

/-- THE TIED CARD OF 'kilnlaw17.JournalArgs'. -/
def journalArgsCard : Claim7 := { stood := { row := journalArgsRow, standIns := [], harness := (true, "3f413ccf09183aa907d618c6170fd225f41573d2223cae8faa8772a759fa8b4a"), looks := false }, kinds := [], alts := [], laidByText := true, laidKinds := [.data], laidTests := true, laidLooks := .later }
def JournalArgsCardSaid : Prop := Claim7.holds Tryd.pinned (.plain (OpenSpec.ofChange journalArgsSpec)) journalArgsCard

/-- THE TIED CARD OF 'kilnlaw17.JournalBit'. -/
def journalBitCard : Claim7 := { stood := { row := journalBitRow, standIns := [], harness := (true, "3f413ccf09183aa907d618c6170fd225f41573d2223cae8faa8772a759fa8b4a"), looks := false }, kinds := [], alts := [], laidByText := true, laidKinds := [.data], laidTests := true, laidLooks := .later }
def JournalBitCardSaid : Prop := Claim7.holds Tryd.pinned (.plain (OpenSpec.ofChange journalBitSpec)) journalBitCard

/-- THE TIED CARD OF 'kilnlaw17.JournalWide'. -/
def journalWideCard : Claim7 := { stood := { row := journalWideRow, standIns := [], harness := (true, "3f413ccf09183aa907d618c6170fd225f41573d2223cae8faa8772a759fa8b4a"), looks := false }, kinds := [], alts := [], laidByText := true, laidKinds := [.data], laidTests := true, laidLooks := .later }
def JournalWideCardSaid : Prop := Claim7.holds Tryd.pinned (.plain (OpenSpec.ofChange journalWideSpec)) journalWideCard

/-- THE TIED CARD OF 'kilnlaw17.JournalKeeps'. -/
def journalKeepsCard : Claim7 := { stood := { row := journalKeepsRow, standIns := [], harness := (true, "3f413ccf09183aa907d618c6170fd225f41573d2223cae8faa8772a759fa8b4a"), looks := false }, kinds := [], alts := [], laidByText := true, laidKinds := [.data], laidTests := true, laidLooks := .later }
def JournalKeepsCardSaid : Prop := Claim7.holds Tryd.pinned (.plain (OpenSpec.ofChange journalKeepsSpec)) journalKeepsCard

/-- THE TIED CARD OF 'kilnlaw17.JournalPlays'. -/
def journalPlaysCard : Claim7 := { stood := { row := journalPlaysRow, standIns := [], harness := (true, "3f413ccf09183aa907d618c6170fd225f41573d2223cae8faa8772a759fa8b4a"), looks := false }, kinds := [], alts := [], laidByText := true, laidKinds := [.data], laidTests := true, laidLooks := .later }
def JournalPlaysCardSaid : Prop := Claim7.holds Tryd.pinned (.plain (OpenSpec.ofChange journalPlaysSpec)) journalPlaysCard

/-- THE SECOND FORM's CARD OF 'kilnlaw17.JournalWrites'. -/
def journalWritesUptoCard : Claim7 := { stood := { row := journalWritesUptoRow, standIns := [], harness := (true, "3f413ccf09183aa907d618c6170fd225f41573d2223cae8faa8772a759fa8b4a"), looks := false }, kinds := [], alts := [], laidByText := true, laidKinds := [.data], laidTests := true, laidLooks := .later }
def JournalWritesUptoCardSaid : Prop := Claim7.holds Tryd.pinned (.plain (OpenSpec.upto journalWritesSpec)) journalWritesUptoCard

/-- THE SECOND FORM's CARD OF 'kilnlaw17.JournalReads'. -/
def journalReadsUptoCard : Claim7 := { stood := { row := journalReadsUptoRow, standIns := [], harness := (true, "3f413ccf09183aa907d618c6170fd225f41573d2223cae8faa8772a759fa8b4a"), looks := false }, kinds := [], alts := [], laidByText := true, laidKinds := [.data], laidTests := true, laidLooks := .later }
def JournalReadsUptoCardSaid : Prop := Claim7.holds Tryd.pinned (.plain (OpenSpec.upto journalReadsSpec)) journalReadsUptoCard

/-- THE SECOND FORM's CARD OF 'kilnlaw17.JournalBack'. -/
def journalBackUptoCard : Claim7 := { stood := { row := journalBackUptoRow, standIns := [], harness := (true, "3f413ccf09183aa907d618c6170fd225f41573d2223cae8faa8772a759fa8b4a"), looks := false }, kinds := [], alts := [], laidByText := true, laidKinds := [.data], laidTests := true, laidLooks := .later }
def JournalBackUptoCardSaid : Prop := Claim7.holds Tryd.pinned (.plain (OpenSpec.upto journalBackSpec)) journalBackUptoCard

/-- THE SECOND FORM's CARD OF 'kilnlaw17.JournalLast'. -/
def journalLastUptoCard : Claim7 := { stood := { row := journalLastUptoRow, standIns := [], harness := (true, "3f413ccf09183aa907d618c6170fd225f41573d2223cae8faa8772a759fa8b4a"), looks := false }, kinds := [], alts := [], laidByText := true, laidKinds := [.data], laidTests := true, laidLooks := .later }
def JournalLastUptoCardSaid : Prop := Claim7.holds Tryd.pinned (.plain (OpenSpec.upto journalLastSpec)) journalLastUptoCard

/-- THE SECOND FORM's CARD OF 'kilnlaw17.JournalAgain'. -/
def journalAgainUptoCard : Claim7 := { stood := { row := journalAgainUptoRow, standIns := [], harness := (true, "3f413ccf09183aa907d618c6170fd225f41573d2223cae8faa8772a759fa8b4a"), looks := false }, kinds := [], alts := [], laidByText := true, laidKinds := [.data], laidTests := true, laidLooks := .later }
def JournalAgainUptoCardSaid : Prop := Claim7.holds Tryd.pinned (.plain (OpenSpec.upto journalAgainSpec)) journalAgainUptoCard

/-- THE SECOND FORM's CARD OF 'kilnlaw17.JournalLent'. -/
def journalLentUptoCard : Claim7 := { stood := { row := journalLentUptoRow, standIns := [], harness := (true, "3f413ccf09183aa907d618c6170fd225f41573d2223cae8faa8772a759fa8b4a"), looks := false }, kinds := [], alts := [], laidByText := true, laidKinds := [.data], laidTests := true, laidLooks := .later }
def JournalLentUptoCardSaid : Prop := Claim7.holds Tryd.pinned (.plain (OpenSpec.upto journalLentSpec)) journalLentUptoCard

/-- THE SECOND FORM's CARD OF 'kilnlaw17.JournalArgs'. -/
def journalArgsUptoCard : Claim7 := { stood := { row := journalArgsUptoRow, standIns := [], harness := (true, "3f413ccf09183aa907d618c6170fd225f41573d2223cae8faa8772a759fa8b4a"), looks := false }, kinds := [], alts := [], laidByText := true, laidKinds := [.data], laidTests := true, laidLooks := .later }
def JournalArgsUptoCardSaid : Prop := Claim7.holds Tryd.pinned (.plain (OpenSpec.upto journalArgsSpec)) journalArgsUptoCard

/-- THE SECOND FORM's CARD OF 'kilnlaw17.JournalBit'. -/
def journalBitUptoCard : Claim7 := { stood := { row := journalBitUptoRow, standIns := [], harness := (true, "3f413ccf09183aa907d618c6170fd225f41573d2223cae8faa8772a759fa8b4a"), looks := false }, kinds := [], alts := [], laidByText := true, laidKinds := [.data], laidTests := true, laidLooks := .later }
def JournalBitUptoCardSaid : Prop := Claim7.holds Tryd.pinned (.plain (OpenSpec.upto journalBitSpec)) journalBitUptoCard

/-- THE SECOND FORM's CARD OF 'kilnlaw17.JournalWide'. -/
def journalWideUptoCard : Claim7 := { stood := { row := journalWideUptoRow, standIns := [], harness := (true, "3f413ccf09183aa907d618c6170fd225f41573d2223cae8faa8772a759fa8b4a"), looks := false }, kinds := [], alts := [], laidByText := true, laidKinds := [.data], laidTests := true, laidLooks := .later }
def JournalWideUptoCardSaid : Prop := Claim7.holds Tryd.pinned (.plain (OpenSpec.upto journalWideSpec)) journalWideUptoCard

/-- THE SECOND FORM's CARD OF 'kilnlaw17.JournalKeeps'. -/
def journalKeepsUptoCard : Claim7 := { stood := { row := journalKeepsUptoRow, standIns := [], harness := (true, "3f413ccf09183aa907d618c6170fd225f41573d2223cae8faa8772a759fa8b4a"), looks := false }, kinds := [], alts := [], laidByText := true, laidKinds := [.data], laidTests := true, laidLooks := .later }
def JournalKeepsUptoCardSaid : Prop := Claim7.holds Tryd.pinned (.plain (OpenSpec.upto journalKeepsSpec)) journalKeepsUptoCard

/-- THE SECOND FORM's CARD OF 'kilnlaw17.JournalPlays'. -/
def journalPlaysUptoCard : Claim7 := { stood := { row := journalPlaysUptoRow, standIns := [], harness := (true, "3f413ccf09183aa907d618c6170fd225f41573d2223cae8faa8772a759fa8b4a"), looks := false }, kinds := [], alts := [], laidByText := true, laidKinds := [.data], laidTests := true, laidLooks := .later }
def JournalPlaysUptoCardSaid : Prop := Claim7.holds Tryd.pinned (.plain (OpenSpec.upto journalPlaysSpec)) journalPlaysUptoCard
end Rows
end Go.Proofs.YtagodmmpkapgnaaDoor
