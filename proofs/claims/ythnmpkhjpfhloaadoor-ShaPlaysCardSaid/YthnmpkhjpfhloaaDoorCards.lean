/-
  DERIVED. GIVEN WITH THE SEED: THE CARDS: each row of YthnmpkhjpfhloaaDoorRows.lean that lists a variable, with what it lists TIED to the program's text (the seventh form; the later family's looks); each row that meets fmt, with fmt's text TOLD by the authors' own Lean function (tested against real Go, not proved from fmt's source: count such statements apart). THE CARD IS WHAT COUNTS. Prove the row's statement (the work); the ties are given (YthnmpkhjpfhloaaDoorTie.lean); close each card by the builder's one call (the guide's Derived/Test/ToyasCard.lean, 'card_holds'). Laid BY PROGRAM, IN A SANDBOX (cutbox-door.mjs). By AI agents, Wed Nov 11 2026. No macro, syntax, notation, axiom, sorry.
-/
import Derived.Test.YthnmpkhjpfhloaaDoorRows
import GoSem.ClaimSeven
namespace Go.Proofs.YthnmpkhjpfhloaaDoor
namespace Rows

/-- THE TIED CARD OF 'kilnlaw2.ShaKnown'. -/
def shaKnownCard : Claim7 := { stood := { row := shaKnownRow, standIns := [], harness := (true, "50bc8511d44ca34f5ed1edbe7506b5cc03fe02bd1f4f4014d5f81ce0cfa3b58c"), looks := false }, kinds := [], alts := [], laidByText := true, laidKinds := [.data], laidTests := true, laidLooks := .later }
def ShaKnownCardSaid : Prop := Claim7.holds Tryd.pinned (.plain (OpenSpec.ofChange shaKnownSpec)) shaKnownCard

/-- THE TIED CARD OF 'kilnlaw2.ShaSums'. -/
def shaSumsCard : Claim7 := { stood := { row := shaSumsRow, standIns := [], harness := (true, "50bc8511d44ca34f5ed1edbe7506b5cc03fe02bd1f4f4014d5f81ce0cfa3b58c"), looks := false }, kinds := [], alts := [], laidByText := true, laidKinds := [.data], laidTests := true, laidLooks := .later }
def ShaSumsCardSaid : Prop := Claim7.holds Tryd.pinned (.plain (OpenSpec.ofChange shaSumsSpec)) shaSumsCard

/-- THE TIED CARD OF 'kilnlaw2.ShaPlays'. -/
def shaPlaysCard : Claim7 := { stood := { row := shaPlaysRow, standIns := [], harness := (true, "50bc8511d44ca34f5ed1edbe7506b5cc03fe02bd1f4f4014d5f81ce0cfa3b58c"), looks := false }, kinds := [], alts := [], laidByText := true, laidKinds := [.data], laidTests := true, laidLooks := .later }
def ShaPlaysCardSaid : Prop := Claim7.holds Tryd.pinned (.plain (OpenSpec.ofChange shaPlaysSpec)) shaPlaysCard

/-- THE TIED CARD OF 'kilnlaw2.ShaLong'. -/
def shaLongCard : Claim7 := { stood := { row := shaLongRow, standIns := [], harness := (true, "50bc8511d44ca34f5ed1edbe7506b5cc03fe02bd1f4f4014d5f81ce0cfa3b58c"), looks := false }, kinds := [], alts := [], laidByText := true, laidKinds := [.data], laidTests := true, laidLooks := .later }
def ShaLongCardSaid : Prop := Claim7.holds Tryd.pinned (.plain (OpenSpec.ofChange shaLongSpec)) shaLongCard

/-- THE TIED CARD OF 'kilnlaw2.ShaCuts'. -/
def shaCutsCard : Claim7 := { stood := { row := shaCutsRow, standIns := [], harness := (true, "50bc8511d44ca34f5ed1edbe7506b5cc03fe02bd1f4f4014d5f81ce0cfa3b58c"), looks := false }, kinds := [], alts := [], laidByText := true, laidKinds := [.data], laidTests := true, laidLooks := .later }
def ShaCutsCardSaid : Prop := Claim7.holds Tryd.pinned (.plain (OpenSpec.ofChange shaCutsSpec)) shaCutsCard

/-- THE TIED CARD OF 'kilnlaw2.ShaAgain'. -/
def shaAgainCard : Claim7 := { stood := { row := shaAgainRow, standIns := [], harness := (true, "50bc8511d44ca34f5ed1edbe7506b5cc03fe02bd1f4f4014d5f81ce0cfa3b58c"), looks := false }, kinds := [], alts := [], laidByText := true, laidKinds := [.data], laidTests := true, laidLooks := .later }
def ShaAgainCardSaid : Prop := Claim7.holds Tryd.pinned (.plain (OpenSpec.ofChange shaAgainSpec)) shaAgainCard

/-- THE SECOND FORM's CARD OF 'kilnlaw2.ShaKnown'. -/
def shaKnownUptoCard : Claim7 := { stood := { row := shaKnownUptoRow, standIns := [], harness := (true, "50bc8511d44ca34f5ed1edbe7506b5cc03fe02bd1f4f4014d5f81ce0cfa3b58c"), looks := false }, kinds := [], alts := [], laidByText := true, laidKinds := [.data], laidTests := true, laidLooks := .later }
def ShaKnownUptoCardSaid : Prop := Claim7.holds Tryd.pinned (.plain (OpenSpec.upto shaKnownSpec)) shaKnownUptoCard

/-- THE SECOND FORM's CARD OF 'kilnlaw2.ShaSums'. -/
def shaSumsUptoCard : Claim7 := { stood := { row := shaSumsUptoRow, standIns := [], harness := (true, "50bc8511d44ca34f5ed1edbe7506b5cc03fe02bd1f4f4014d5f81ce0cfa3b58c"), looks := false }, kinds := [], alts := [], laidByText := true, laidKinds := [.data], laidTests := true, laidLooks := .later }
def ShaSumsUptoCardSaid : Prop := Claim7.holds Tryd.pinned (.plain (OpenSpec.upto shaSumsSpec)) shaSumsUptoCard

/-- THE SECOND FORM's CARD OF 'kilnlaw2.ShaPlays'. -/
def shaPlaysUptoCard : Claim7 := { stood := { row := shaPlaysUptoRow, standIns := [], harness := (true, "50bc8511d44ca34f5ed1edbe7506b5cc03fe02bd1f4f4014d5f81ce0cfa3b58c"), looks := false }, kinds := [], alts := [], laidByText := true, laidKinds := [.data], laidTests := true, laidLooks := .later }
def ShaPlaysUptoCardSaid : Prop := Claim7.holds Tryd.pinned (.plain (OpenSpec.upto shaPlaysSpec)) shaPlaysUptoCard

/-- THE SECOND FORM's CARD OF 'kilnlaw2.ShaLong'. -/
def shaLongUptoCard : Claim7 := { stood := { row := shaLongUptoRow, standIns := [], harness := (true, "50bc8511d44ca34f5ed1edbe7506b5cc03fe02bd1f4f4014d5f81ce0cfa3b58c"), looks := false }, kinds := [], alts := [], laidByText := true, laidKinds := [.data], laidTests := true, laidLooks := .later }
def ShaLongUptoCardSaid : Prop := Claim7.holds Tryd.pinned (.plain (OpenSpec.upto shaLongSpec)) shaLongUptoCard

/-- THE SECOND FORM's CARD OF 'kilnlaw2.ShaCuts'. -/
def shaCutsUptoCard : Claim7 := { stood := { row := shaCutsUptoRow, standIns := [], harness := (true, "50bc8511d44ca34f5ed1edbe7506b5cc03fe02bd1f4f4014d5f81ce0cfa3b58c"), looks := false }, kinds := [], alts := [], laidByText := true, laidKinds := [.data], laidTests := true, laidLooks := .later }
def ShaCutsUptoCardSaid : Prop := Claim7.holds Tryd.pinned (.plain (OpenSpec.upto shaCutsSpec)) shaCutsUptoCard

/-- THE SECOND FORM's CARD OF 'kilnlaw2.ShaAgain'. -/
def shaAgainUptoCard : Claim7 := { stood := { row := shaAgainUptoRow, standIns := [], harness := (true, "50bc8511d44ca34f5ed1edbe7506b5cc03fe02bd1f4f4014d5f81ce0cfa3b58c"), looks := false }, kinds := [], alts := [], laidByText := true, laidKinds := [.data], laidTests := true, laidLooks := .later }
def ShaAgainUptoCardSaid : Prop := Claim7.holds Tryd.pinned (.plain (OpenSpec.upto shaAgainSpec)) shaAgainUptoCard
end Rows
end Go.Proofs.YthnmpkhjpfhloaaDoor
