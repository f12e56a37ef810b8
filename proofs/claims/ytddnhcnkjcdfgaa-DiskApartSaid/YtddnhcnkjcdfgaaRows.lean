/-
  No cell of these rows narrows 'for every input' (looked for: loops, veiled, ifaces, maps, wideKeys, modest, calm, conditions, laid).
  DERIVED. THE GIVEN ROWS OF THIS SEAT. 12 by the template 'for every input the law returns true; each argument reads behind the call as it read before'; 0 by the template 'total and deterministic' (their statements: YtddnhcnkjcdfgaaTotals.lean).
  GIVEN WITH THE SEED: the statements are not yours to turn. If you find one false, say at which input.
  Laid BY PROGRAM, IN A SANDBOX (cutbox-rows.mjs): the forced cells as the released guide's own fill.sh prints them over the translation b82fbccb986b425c… (all of the seat's roots in one cut). By AI agents, Wed Nov 11 2026. No macro, syntax, notation, axiom, sorry.
-/
import Derived.Test.YtddnhcnkjcdfgaaChecked
import GoSem.Claim
import GoSem.ClaimJoined
import GoSem.ClaimMapViews
import Derived.JoinedTies
import Derived.KernelRfl
namespace Go.Proofs.Ytddnhcnkjcdfgaa
/- THE CELL 'sum', in the pinned program and in every row, IS THE sha256 OF THE DUMP (.gsa) THAT YtddnhcnkjcdfgaaProg.lean LOADS. Nothing in Lean hashes anything: it is a label: what it is worth is what the hold of that sum in a sandbox is worth. -/
noncomputable def Try.pinned : Pinned := { name := "ytddnhcnkjcdfgaa", sum := "b82fbccb986b425c8dc1c81b42b1cef10917ad8f1b6f95b9d8e1d9ae4fc00a8d", checked := Try.checked }
namespace Rows
def none {H : Type} : Left H := { results := [], args := [] }

/-- 'kilnlaw3.DiskTells': WHATEVER THE INPUT: true; the input reads as it did. -/
def diskTellsSpec : ChangeSpec := { name := "diskTells", fn := fun _ => fun
  | [d1, d2, d3] => { results := [.lit (.bool true)], args := [d1, d2, d3] }
  | _ => none }
def diskTellsRow : OpenClaim := { program := "ytddnhcnkjcdfgaa", sum := "b82fbccb986b425c8dc1c81b42b1cef10917ad8f1b6f95b9d8e1d9ae4fc00a8d", func := "kiln/kilnlaw3.DiskTells", spec := "diskTells", apart := false }
def DiskTellsSaid : Prop := diskTellsRow.holds Try.pinned (OpenSpec.ofChange diskTellsSpec)

/-- ITS FALSE NEIGHBOUR: 'it returns false'. Refute it at one input. -/
def diskTellsWrong : ChangeSpec := { name := "diskTells", fn := fun _ => fun
  | [d1, d2, d3] => { results := [.lit (.bool false)], args := [d1, d2, d3] }
  | _ => none }
def DiskTellsWrongFalsely : Prop := diskTellsRow.holds Try.pinned (OpenSpec.ofChange diskTellsWrong)

/-- 'kilnlaw3.DiskOwn': WHATEVER THE INPUT: true; the input reads as it did. -/
def diskOwnSpec : ChangeSpec := { name := "diskOwn", fn := fun _ => fun
  | [d1, d2, d3] => { results := [.lit (.bool true)], args := [d1, d2, d3] }
  | _ => none }
def diskOwnRow : OpenClaim := { program := "ytddnhcnkjcdfgaa", sum := "b82fbccb986b425c8dc1c81b42b1cef10917ad8f1b6f95b9d8e1d9ae4fc00a8d", func := "kiln/kilnlaw3.DiskOwn", spec := "diskOwn", apart := false }
def DiskOwnSaid : Prop := diskOwnRow.holds Try.pinned (OpenSpec.ofChange diskOwnSpec)

/-- ITS FALSE NEIGHBOUR: 'it returns false'. Refute it at one input. -/
def diskOwnWrong : ChangeSpec := { name := "diskOwn", fn := fun _ => fun
  | [d1, d2, d3] => { results := [.lit (.bool false)], args := [d1, d2, d3] }
  | _ => none }
def DiskOwnWrongFalsely : Prop := diskOwnRow.holds Try.pinned (OpenSpec.ofChange diskOwnWrong)

/-- 'kilnlaw3.DiskAgainLoads': WHATEVER THE INPUT: true; the input reads as it did. -/
def diskAgainLoadsSpec : ChangeSpec := { name := "diskAgainLoads", fn := fun _ => fun
  | [d1, d2, d3] => { results := [.lit (.bool true)], args := [d1, d2, d3] }
  | _ => none }
def diskAgainLoadsRow : OpenClaim := { program := "ytddnhcnkjcdfgaa", sum := "b82fbccb986b425c8dc1c81b42b1cef10917ad8f1b6f95b9d8e1d9ae4fc00a8d", func := "kiln/kilnlaw3.DiskAgainLoads", spec := "diskAgainLoads", apart := false }
def DiskAgainLoadsSaid : Prop := diskAgainLoadsRow.holds Try.pinned (OpenSpec.ofChange diskAgainLoadsSpec)

/-- ITS FALSE NEIGHBOUR: 'it returns false'. Refute it at one input. -/
def diskAgainLoadsWrong : ChangeSpec := { name := "diskAgainLoads", fn := fun _ => fun
  | [d1, d2, d3] => { results := [.lit (.bool false)], args := [d1, d2, d3] }
  | _ => none }
def DiskAgainLoadsWrongFalsely : Prop := diskAgainLoadsRow.holds Try.pinned (OpenSpec.ofChange diskAgainLoadsWrong)

/-- 'kilnlaw3.DiskStays': WHATEVER THE INPUT: true; the input reads as it did. -/
def diskStaysSpec : ChangeSpec := { name := "diskStays", fn := fun _ => fun
  | [d1, d2, d3, d4, d5] => { results := [.lit (.bool true)], args := [d1, d2, d3, d4, d5] }
  | _ => none }
def diskStaysRow : OpenClaim := { program := "ytddnhcnkjcdfgaa", sum := "b82fbccb986b425c8dc1c81b42b1cef10917ad8f1b6f95b9d8e1d9ae4fc00a8d", func := "kiln/kilnlaw3.DiskStays", spec := "diskStays", unfollowed := true, recurses := true, apart := false }
def DiskStaysSaid : Prop := diskStaysRow.holds Try.pinned (OpenSpec.ofChange diskStaysSpec)

/-- ITS FALSE NEIGHBOUR: 'it returns false'. Refute it at one input. -/
def diskStaysWrong : ChangeSpec := { name := "diskStays", fn := fun _ => fun
  | [d1, d2, d3, d4, d5] => { results := [.lit (.bool false)], args := [d1, d2, d3, d4, d5] }
  | _ => none }
def DiskStaysWrongFalsely : Prop := diskStaysRow.holds Try.pinned (OpenSpec.ofChange diskStaysWrong)

/-- 'kilnlaw3.DiskLent': WHATEVER THE INPUT: true; the input reads as it did. -/
def diskLentSpec : ChangeSpec := { name := "diskLent", fn := fun _ => fun
  | [d1, d2, d3] => { results := [.lit (.bool true)], args := [d1, d2, d3] }
  | _ => none }
def diskLentRow : OpenClaim := { program := "ytddnhcnkjcdfgaa", sum := "b82fbccb986b425c8dc1c81b42b1cef10917ad8f1b6f95b9d8e1d9ae4fc00a8d", func := "kiln/kilnlaw3.DiskLent", spec := "diskLent", unfollowed := true, recurses := true, apart := false }
def DiskLentSaid : Prop := diskLentRow.holds Try.pinned (OpenSpec.ofChange diskLentSpec)

/-- ITS FALSE NEIGHBOUR: 'it returns false'. Refute it at one input. -/
def diskLentWrong : ChangeSpec := { name := "diskLent", fn := fun _ => fun
  | [d1, d2, d3] => { results := [.lit (.bool false)], args := [d1, d2, d3] }
  | _ => none }
def DiskLentWrongFalsely : Prop := diskLentRow.holds Try.pinned (OpenSpec.ofChange diskLentWrong)

/-- 'kilnlaw3.DiskGreat': WHATEVER THE INPUT: true; the input reads as it did. -/
def diskGreatSpec : ChangeSpec := { name := "diskGreat", fn := fun _ => fun
  | [d1, d2, d3, d4] => { results := [.lit (.bool true)], args := [d1, d2, d3, d4] }
  | _ => none }
def diskGreatRow : OpenClaim := { program := "ytddnhcnkjcdfgaa", sum := "b82fbccb986b425c8dc1c81b42b1cef10917ad8f1b6f95b9d8e1d9ae4fc00a8d", func := "kiln/kilnlaw3.DiskGreat", spec := "diskGreat", unfollowed := true, recurses := true, apart := false }
def DiskGreatSaid : Prop := diskGreatRow.holds Try.pinned (OpenSpec.ofChange diskGreatSpec)

/-- ITS FALSE NEIGHBOUR: 'it returns false'. Refute it at one input. -/
def diskGreatWrong : ChangeSpec := { name := "diskGreat", fn := fun _ => fun
  | [d1, d2, d3, d4] => { results := [.lit (.bool false)], args := [d1, d2, d3, d4] }
  | _ => none }
def DiskGreatWrongFalsely : Prop := diskGreatRow.holds Try.pinned (OpenSpec.ofChange diskGreatWrong)

/-- 'kilnlaw3.DiskWhole': WHATEVER THE INPUT: true; the input reads as it did. -/
def diskWholeSpec : ChangeSpec := { name := "diskWhole", fn := fun _ => fun
  | [d1, d2, d3, d4] => { results := [.lit (.bool true)], args := [d1, d2, d3, d4] }
  | _ => none }
def diskWholeRow : OpenClaim := { program := "ytddnhcnkjcdfgaa", sum := "b82fbccb986b425c8dc1c81b42b1cef10917ad8f1b6f95b9d8e1d9ae4fc00a8d", func := "kiln/kilnlaw3.DiskWhole", spec := "diskWhole", unfollowed := true, recurses := true, apart := false }
def DiskWholeSaid : Prop := diskWholeRow.holds Try.pinned (OpenSpec.ofChange diskWholeSpec)

/-- ITS FALSE NEIGHBOUR: 'it returns false'. Refute it at one input. -/
def diskWholeWrong : ChangeSpec := { name := "diskWhole", fn := fun _ => fun
  | [d1, d2, d3, d4] => { results := [.lit (.bool false)], args := [d1, d2, d3, d4] }
  | _ => none }
def DiskWholeWrongFalsely : Prop := diskWholeRow.holds Try.pinned (OpenSpec.ofChange diskWholeWrong)

/-- 'kilnlaw3.DiskTurns': WHATEVER THE INPUT: true; the input reads as it did. -/
def diskTurnsSpec : ChangeSpec := { name := "diskTurns", fn := fun _ => fun
  | [d1, d2, d3, d4, d5, d6] => { results := [.lit (.bool true)], args := [d1, d2, d3, d4, d5, d6] }
  | _ => none }
def diskTurnsRow : OpenClaim := { program := "ytddnhcnkjcdfgaa", sum := "b82fbccb986b425c8dc1c81b42b1cef10917ad8f1b6f95b9d8e1d9ae4fc00a8d", func := "kiln/kilnlaw3.DiskTurns", spec := "diskTurns", unfollowed := true, recurses := true, apart := false }
def DiskTurnsSaid : Prop := diskTurnsRow.holds Try.pinned (OpenSpec.ofChange diskTurnsSpec)

/-- ITS FALSE NEIGHBOUR: 'it returns false'. Refute it at one input. -/
def diskTurnsWrong : ChangeSpec := { name := "diskTurns", fn := fun _ => fun
  | [d1, d2, d3, d4, d5, d6] => { results := [.lit (.bool false)], args := [d1, d2, d3, d4, d5, d6] }
  | _ => none }
def DiskTurnsWrongFalsely : Prop := diskTurnsRow.holds Try.pinned (OpenSpec.ofChange diskTurnsWrong)

/-- 'kilnlaw3.DiskPlays': WHATEVER THE INPUT: true; the input reads as it did. -/
def diskPlaysSpec : ChangeSpec := { name := "diskPlays", fn := fun _ => fun
  | [d1, d2] => { results := [.lit (.bool true)], args := [d1, d2] }
  | _ => none }
def diskPlaysRow : OpenClaim := { program := "ytddnhcnkjcdfgaa", sum := "b82fbccb986b425c8dc1c81b42b1cef10917ad8f1b6f95b9d8e1d9ae4fc00a8d", func := "kiln/kilnlaw3.DiskPlays", spec := "diskPlays", unfollowed := true, recurses := true, apart := false }
def DiskPlaysSaid : Prop := diskPlaysRow.holds Try.pinned (OpenSpec.ofChange diskPlaysSpec)

/-- ITS FALSE NEIGHBOUR: 'it returns false'. Refute it at one input. -/
def diskPlaysWrong : ChangeSpec := { name := "diskPlays", fn := fun _ => fun
  | [d1, d2] => { results := [.lit (.bool false)], args := [d1, d2] }
  | _ => none }
def DiskPlaysWrongFalsely : Prop := diskPlaysRow.holds Try.pinned (OpenSpec.ofChange diskPlaysWrong)

/-- 'kilnlaw3.DiskMakes': WHATEVER THE INPUT: true; the input reads as it did. -/
def diskMakesSpec : ChangeSpec := { name := "diskMakes", fn := fun _ => fun
  | [d1, d2, d3] => { results := [.lit (.bool true)], args := [d1, d2, d3] }
  | _ => none }
def diskMakesRow : OpenClaim := { program := "ytddnhcnkjcdfgaa", sum := "b82fbccb986b425c8dc1c81b42b1cef10917ad8f1b6f95b9d8e1d9ae4fc00a8d", func := "kiln/kilnlaw3.DiskMakes", spec := "diskMakes", unfollowed := true, recurses := true, apart := false }
def DiskMakesSaid : Prop := diskMakesRow.holds Try.pinned (OpenSpec.ofChange diskMakesSpec)

/-- ITS FALSE NEIGHBOUR: 'it returns false'. Refute it at one input. -/
def diskMakesWrong : ChangeSpec := { name := "diskMakes", fn := fun _ => fun
  | [d1, d2, d3] => { results := [.lit (.bool false)], args := [d1, d2, d3] }
  | _ => none }
def DiskMakesWrongFalsely : Prop := diskMakesRow.holds Try.pinned (OpenSpec.ofChange diskMakesWrong)

/-- 'kilnlaw3.DiskBounds': WHATEVER THE INPUT: true; the input reads as it did. -/
def diskBoundsSpec : ChangeSpec := { name := "diskBounds", fn := fun _ => fun
  | [d1, d2, d3, d4] => { results := [.lit (.bool true)], args := [d1, d2, d3, d4] }
  | _ => none }
def diskBoundsRow : OpenClaim := { program := "ytddnhcnkjcdfgaa", sum := "b82fbccb986b425c8dc1c81b42b1cef10917ad8f1b6f95b9d8e1d9ae4fc00a8d", func := "kiln/kilnlaw3.DiskBounds", spec := "diskBounds", unfollowed := true, recurses := true, apart := false }
def DiskBoundsSaid : Prop := diskBoundsRow.holds Try.pinned (OpenSpec.ofChange diskBoundsSpec)

/-- ITS FALSE NEIGHBOUR: 'it returns false'. Refute it at one input. -/
def diskBoundsWrong : ChangeSpec := { name := "diskBounds", fn := fun _ => fun
  | [d1, d2, d3, d4] => { results := [.lit (.bool false)], args := [d1, d2, d3, d4] }
  | _ => none }
def DiskBoundsWrongFalsely : Prop := diskBoundsRow.holds Try.pinned (OpenSpec.ofChange diskBoundsWrong)

/-- 'kilnlaw3.DiskApart': WHATEVER THE INPUT: true; the input reads as it did. -/
def diskApartSpec : ChangeSpec := { name := "diskApart", fn := fun _ => fun
  | [d1, d2] => { results := [.lit (.bool true)], args := [d1, d2] }
  | _ => none }
def diskApartRow : OpenClaim := { program := "ytddnhcnkjcdfgaa", sum := "b82fbccb986b425c8dc1c81b42b1cef10917ad8f1b6f95b9d8e1d9ae4fc00a8d", func := "kiln/kilnlaw3.DiskApart", spec := "diskApart", unfollowed := true, recurses := true, apart := false }
def DiskApartSaid : Prop := diskApartRow.holds Try.pinned (OpenSpec.ofChange diskApartSpec)

/-- ITS FALSE NEIGHBOUR: 'it returns false'. Refute it at one input. -/
def diskApartWrong : ChangeSpec := { name := "diskApart", fn := fun _ => fun
  | [d1, d2] => { results := [.lit (.bool false)], args := [d1, d2] }
  | _ => none }
def DiskApartWrongFalsely : Prop := diskApartRow.holds Try.pinned (OpenSpec.ofChange diskApartWrong)

/- THE SECOND FORM. 'bulk': how many values and letters a reading holds, each counted each time it is reached (what is shared counts as often as it is met; a slice's spare places count too). A statement '..UptoSaid' is the law's where the arguments, and the package variables that the reading takes, are together of bulk at most 1048576: NARROWER than '..Said'. Prove '..Said' where nothing that the law and all that it calls make is longer than what came in: it says more and counts as full. Else prove '..UptoSaid'. A law counts once. -/
mutual
def uptoBulk {H : Type} : DataW H → Nat
  | .lit (.string bytes) => bytes.length + 1
  | .lit _ => 1
  | .nil => 1
  | .ptr d => uptoBulk d + 1
  | .slice elems spare => uptoBulkAll elems + uptoBulkAll spare + 1
  | .agg parts => uptoBulkAll parts + 1
  | .iface _ d => uptoBulk d + 1
  | .map entries => uptoBulkEntries entries + 1
  | .held _ => 1
def uptoBulkAll {H : Type} : List (DataW H) → Nat
  | [] => 0
  | d :: r => uptoBulk d + uptoBulkAll r
def uptoBulkEntries {H : Type} : List (Lit × DataW H) → Nat
  | [] => 0
  | x :: r => uptoBulkEntry x + uptoBulkEntries r
def uptoBulkEntry {H : Type} : Lit × DataW H → Nat
  | (.string bytes, d) => bytes.length + uptoBulk d + 1
  | (_, d) => uptoBulk d + 1
 end
def uptoSmall : (H : Type) → List (DataW H) → Bool := fun _ ds => decide (uptoBulkAll ds ≤ 1048576)
def OpenSpec.upto (s : _root_.Go.ChangeSpec) : _root_.Go.OpenSpec := { _root_.Go.OpenSpec.ofChange s with cond := some uptoSmall }

/-- 'kilnlaw3.DiskTells', WHERE WHAT IT READS IS OF BULK AT MOST 1048576: true; the input reads as it did. -/
def diskTellsUptoRow : OpenClaim := { program := "ytddnhcnkjcdfgaa", sum := "b82fbccb986b425c8dc1c81b42b1cef10917ad8f1b6f95b9d8e1d9ae4fc00a8d", func := "kiln/kilnlaw3.DiskTells", spec := "diskTells", apart := false, narrowed := true }
def DiskTellsUptoSaid : Prop := diskTellsUptoRow.holds Try.pinned (OpenSpec.upto diskTellsSpec)

/-- 'kilnlaw3.DiskOwn', WHERE WHAT IT READS IS OF BULK AT MOST 1048576: true; the input reads as it did. -/
def diskOwnUptoRow : OpenClaim := { program := "ytddnhcnkjcdfgaa", sum := "b82fbccb986b425c8dc1c81b42b1cef10917ad8f1b6f95b9d8e1d9ae4fc00a8d", func := "kiln/kilnlaw3.DiskOwn", spec := "diskOwn", apart := false, narrowed := true }
def DiskOwnUptoSaid : Prop := diskOwnUptoRow.holds Try.pinned (OpenSpec.upto diskOwnSpec)

/-- 'kilnlaw3.DiskAgainLoads', WHERE WHAT IT READS IS OF BULK AT MOST 1048576: true; the input reads as it did. -/
def diskAgainLoadsUptoRow : OpenClaim := { program := "ytddnhcnkjcdfgaa", sum := "b82fbccb986b425c8dc1c81b42b1cef10917ad8f1b6f95b9d8e1d9ae4fc00a8d", func := "kiln/kilnlaw3.DiskAgainLoads", spec := "diskAgainLoads", apart := false, narrowed := true }
def DiskAgainLoadsUptoSaid : Prop := diskAgainLoadsUptoRow.holds Try.pinned (OpenSpec.upto diskAgainLoadsSpec)

/-- 'kilnlaw3.DiskStays', WHERE WHAT IT READS IS OF BULK AT MOST 1048576: true; the input reads as it did. -/
def diskStaysUptoRow : OpenClaim := { program := "ytddnhcnkjcdfgaa", sum := "b82fbccb986b425c8dc1c81b42b1cef10917ad8f1b6f95b9d8e1d9ae4fc00a8d", func := "kiln/kilnlaw3.DiskStays", spec := "diskStays", unfollowed := true, recurses := true, apart := false, narrowed := true }
def DiskStaysUptoSaid : Prop := diskStaysUptoRow.holds Try.pinned (OpenSpec.upto diskStaysSpec)

/-- 'kilnlaw3.DiskLent', WHERE WHAT IT READS IS OF BULK AT MOST 1048576: true; the input reads as it did. -/
def diskLentUptoRow : OpenClaim := { program := "ytddnhcnkjcdfgaa", sum := "b82fbccb986b425c8dc1c81b42b1cef10917ad8f1b6f95b9d8e1d9ae4fc00a8d", func := "kiln/kilnlaw3.DiskLent", spec := "diskLent", unfollowed := true, recurses := true, apart := false, narrowed := true }
def DiskLentUptoSaid : Prop := diskLentUptoRow.holds Try.pinned (OpenSpec.upto diskLentSpec)

/-- 'kilnlaw3.DiskGreat', WHERE WHAT IT READS IS OF BULK AT MOST 1048576: true; the input reads as it did. -/
def diskGreatUptoRow : OpenClaim := { program := "ytddnhcnkjcdfgaa", sum := "b82fbccb986b425c8dc1c81b42b1cef10917ad8f1b6f95b9d8e1d9ae4fc00a8d", func := "kiln/kilnlaw3.DiskGreat", spec := "diskGreat", unfollowed := true, recurses := true, apart := false, narrowed := true }
def DiskGreatUptoSaid : Prop := diskGreatUptoRow.holds Try.pinned (OpenSpec.upto diskGreatSpec)

/-- 'kilnlaw3.DiskWhole', WHERE WHAT IT READS IS OF BULK AT MOST 1048576: true; the input reads as it did. -/
def diskWholeUptoRow : OpenClaim := { program := "ytddnhcnkjcdfgaa", sum := "b82fbccb986b425c8dc1c81b42b1cef10917ad8f1b6f95b9d8e1d9ae4fc00a8d", func := "kiln/kilnlaw3.DiskWhole", spec := "diskWhole", unfollowed := true, recurses := true, apart := false, narrowed := true }
def DiskWholeUptoSaid : Prop := diskWholeUptoRow.holds Try.pinned (OpenSpec.upto diskWholeSpec)

/-- 'kilnlaw3.DiskTurns', WHERE WHAT IT READS IS OF BULK AT MOST 1048576: true; the input reads as it did. -/
def diskTurnsUptoRow : OpenClaim := { program := "ytddnhcnkjcdfgaa", sum := "b82fbccb986b425c8dc1c81b42b1cef10917ad8f1b6f95b9d8e1d9ae4fc00a8d", func := "kiln/kilnlaw3.DiskTurns", spec := "diskTurns", unfollowed := true, recurses := true, apart := false, narrowed := true }
def DiskTurnsUptoSaid : Prop := diskTurnsUptoRow.holds Try.pinned (OpenSpec.upto diskTurnsSpec)

/-- 'kilnlaw3.DiskPlays', WHERE WHAT IT READS IS OF BULK AT MOST 1048576: true; the input reads as it did. -/
def diskPlaysUptoRow : OpenClaim := { program := "ytddnhcnkjcdfgaa", sum := "b82fbccb986b425c8dc1c81b42b1cef10917ad8f1b6f95b9d8e1d9ae4fc00a8d", func := "kiln/kilnlaw3.DiskPlays", spec := "diskPlays", unfollowed := true, recurses := true, apart := false, narrowed := true }
def DiskPlaysUptoSaid : Prop := diskPlaysUptoRow.holds Try.pinned (OpenSpec.upto diskPlaysSpec)

/-- 'kilnlaw3.DiskMakes', WHERE WHAT IT READS IS OF BULK AT MOST 1048576: true; the input reads as it did. -/
def diskMakesUptoRow : OpenClaim := { program := "ytddnhcnkjcdfgaa", sum := "b82fbccb986b425c8dc1c81b42b1cef10917ad8f1b6f95b9d8e1d9ae4fc00a8d", func := "kiln/kilnlaw3.DiskMakes", spec := "diskMakes", unfollowed := true, recurses := true, apart := false, narrowed := true }
def DiskMakesUptoSaid : Prop := diskMakesUptoRow.holds Try.pinned (OpenSpec.upto diskMakesSpec)

/-- 'kilnlaw3.DiskBounds', WHERE WHAT IT READS IS OF BULK AT MOST 1048576: true; the input reads as it did. -/
def diskBoundsUptoRow : OpenClaim := { program := "ytddnhcnkjcdfgaa", sum := "b82fbccb986b425c8dc1c81b42b1cef10917ad8f1b6f95b9d8e1d9ae4fc00a8d", func := "kiln/kilnlaw3.DiskBounds", spec := "diskBounds", unfollowed := true, recurses := true, apart := false, narrowed := true }
def DiskBoundsUptoSaid : Prop := diskBoundsUptoRow.holds Try.pinned (OpenSpec.upto diskBoundsSpec)

/-- 'kilnlaw3.DiskApart', WHERE WHAT IT READS IS OF BULK AT MOST 1048576: true; the input reads as it did. -/
def diskApartUptoRow : OpenClaim := { program := "ytddnhcnkjcdfgaa", sum := "b82fbccb986b425c8dc1c81b42b1cef10917ad8f1b6f95b9d8e1d9ae4fc00a8d", func := "kiln/kilnlaw3.DiskApart", spec := "diskApart", unfollowed := true, recurses := true, apart := false, narrowed := true }
def DiskApartUptoSaid : Prop := diskApartUptoRow.holds Try.pinned (OpenSpec.upto diskApartSpec)

end Rows
end Go.Proofs.Ytddnhcnkjcdfgaa
