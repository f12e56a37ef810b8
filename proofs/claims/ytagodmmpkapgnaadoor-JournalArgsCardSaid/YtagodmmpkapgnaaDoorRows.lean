/-
  NARROWER THAN 'FOR EVERY INPUT', by the rows' own cells (each row's printed sentence says how): JournalWrites: laid · JournalReads: laid · JournalBack: laid · JournalLast: laid · JournalAgain: laid · JournalLent: laid · JournalArgs: laid · JournalBit: laid · JournalWide: laid · JournalKeeps: laid · JournalPlays: laid.
  DERIVED. THE GIVEN ROWS OF THIS SEAT. 11 by the template 'for every input the law returns true; each argument reads behind the call as it read before'; 0 by the template 'total and deterministic' (their statements: YtagodmmpkapgnaaDoorTotals.lean).
  GIVEN WITH THE SEED: the statements are not yours to turn. If you find one false, say at which input.
  Laid BY PROGRAM, IN A SANDBOX (cutbox-rows.mjs): the forced cells as the released guide's own fill.sh prints them over the translation 43e311ba3df25d6b… (all of the seat's roots in one cut). By AI agents, Wed Nov 11 2026. No macro, syntax, notation, axiom, sorry.
-/
import Derived.Test.YtagodmmpkapgnaaDoorChecked
import GoSem.Claim
import GoSem.ClaimJoined
import GoSem.ClaimMapViews
import Derived.JoinedTies
import Derived.KernelRfl
namespace Go.Proofs.YtagodmmpkapgnaaDoor
/- THE CELL 'sum', in the pinned program and in every row, IS THE sha256 OF THE DUMP (.gsa) THAT YtagodmmpkapgnaaDoorProg.lean LOADS. Nothing in Lean hashes anything: it is a label: what it is worth is what the hold of that sum in a sandbox is worth. -/
noncomputable def Tryd.pinned : Pinned := { name := "ytagodmmpkapgnaadoor", sum := "43e311ba3df25d6ba3bf066ba6113d8348ceaafa69ff36169fcc6ddd454e0e77", checked := Tryd.checked }
namespace Rows
def none {H : Type} : Left H := { results := [], args := [] }

/- WHAT THE LISTED PACKAGE-LEVEL VARIABLES READ AS WHEN THE CALL BEGINS. Each datum BY PROGRAM (the guide's laid-datum.mjs) off the statement by which the dump's own 'gosem.cut.vars' lays the variable. In a bare row this is a premise. The card (YtagodmmpkapgnaaDoorCards.lean) ties it to the program's text. -/
def laid_kiln_wire_half {H : Type} : DataW H := .agg [.lit (.int .u32 0), .lit (.int .u32 498536548), .lit (.int .u32 997073096), .lit (.int .u32 651767980), .lit (.int .u32 1994146192), .lit (.int .u32 1802195444), .lit (.int .u32 1303535960), .lit (.int .u32 1342533948), .lit (.int .u32 3988292384), .lit (.int .u32 4027552580), .lit (.int .u32 3604390888), .lit (.int .u32 3412177804), .lit (.int .u32 2607071920), .lit (.int .u32 2262029012), .lit (.int .u32 2685067896), .lit (.int .u32 3183342108)]

/-- 'kilnlaw17.JournalWrites': WHATEVER THE INPUT: true; the input reads as it did. -/
def journalWritesSpec : ChangeSpec := { name := "journalWrites", fn := fun _ => fun
  | [d] => { results := [.lit (.bool true)], args := [d] }
  | _ => none }
def journalWritesRow : OpenClaim := { program := "ytagodmmpkapgnaadoor", sum := "43e311ba3df25d6ba3bf066ba6113d8348ceaafa69ff36169fcc6ddd454e0e77", func := "kiln/kilnlaw17.JournalWrites", spec := "journalWrites", named := ["kiln/wire.half"], apart := false, laid := [("kiln/wire.half", laid_kiln_wire_half)] }
def JournalWritesSaid : Prop := journalWritesRow.holds Tryd.pinned (OpenSpec.ofChange journalWritesSpec)

/-- ITS FALSE NEIGHBOUR: 'it returns false'. Refute it at one input. -/
def journalWritesWrong : ChangeSpec := { name := "journalWrites", fn := fun _ => fun
  | [d] => { results := [.lit (.bool false)], args := [d] }
  | _ => none }
def JournalWritesWrongFalsely : Prop := journalWritesRow.holds Tryd.pinned (OpenSpec.ofChange journalWritesWrong)

/-- 'kilnlaw17.JournalReads': WHATEVER THE INPUT: true; the input reads as it did. -/
def journalReadsSpec : ChangeSpec := { name := "journalReads", fn := fun _ => fun
  | [d1, d2] => { results := [.lit (.bool true)], args := [d1, d2] }
  | _ => none }
def journalReadsRow : OpenClaim := { program := "ytagodmmpkapgnaadoor", sum := "43e311ba3df25d6ba3bf066ba6113d8348ceaafa69ff36169fcc6ddd454e0e77", func := "kiln/kilnlaw17.JournalReads", spec := "journalReads", named := ["kiln/wire.half"], apart := false, laid := [("kiln/wire.half", laid_kiln_wire_half)] }
def JournalReadsSaid : Prop := journalReadsRow.holds Tryd.pinned (OpenSpec.ofChange journalReadsSpec)

/-- ITS FALSE NEIGHBOUR: 'it returns false'. Refute it at one input. -/
def journalReadsWrong : ChangeSpec := { name := "journalReads", fn := fun _ => fun
  | [d1, d2] => { results := [.lit (.bool false)], args := [d1, d2] }
  | _ => none }
def JournalReadsWrongFalsely : Prop := journalReadsRow.holds Tryd.pinned (OpenSpec.ofChange journalReadsWrong)

/-- 'kilnlaw17.JournalBack': WHATEVER THE INPUT: true; the input reads as it did. -/
def journalBackSpec : ChangeSpec := { name := "journalBack", fn := fun _ => fun
  | [d1, d2, d3] => { results := [.lit (.bool true)], args := [d1, d2, d3] }
  | _ => none }
def journalBackRow : OpenClaim := { program := "ytagodmmpkapgnaadoor", sum := "43e311ba3df25d6ba3bf066ba6113d8348ceaafa69ff36169fcc6ddd454e0e77", func := "kiln/kilnlaw17.JournalBack", spec := "journalBack", named := ["kiln/wire.half"], apart := false, laid := [("kiln/wire.half", laid_kiln_wire_half)] }
def JournalBackSaid : Prop := journalBackRow.holds Tryd.pinned (OpenSpec.ofChange journalBackSpec)

/-- ITS FALSE NEIGHBOUR: 'it returns false'. Refute it at one input. -/
def journalBackWrong : ChangeSpec := { name := "journalBack", fn := fun _ => fun
  | [d1, d2, d3] => { results := [.lit (.bool false)], args := [d1, d2, d3] }
  | _ => none }
def JournalBackWrongFalsely : Prop := journalBackRow.holds Tryd.pinned (OpenSpec.ofChange journalBackWrong)

/-- 'kilnlaw17.JournalLast': WHATEVER THE INPUT: true; the input reads as it did. -/
def journalLastSpec : ChangeSpec := { name := "journalLast", fn := fun _ => fun
  | [d] => { results := [.lit (.bool true)], args := [d] }
  | _ => none }
def journalLastRow : OpenClaim := { program := "ytagodmmpkapgnaadoor", sum := "43e311ba3df25d6ba3bf066ba6113d8348ceaafa69ff36169fcc6ddd454e0e77", func := "kiln/kilnlaw17.JournalLast", spec := "journalLast", named := ["kiln/wire.half"], apart := false, laid := [("kiln/wire.half", laid_kiln_wire_half)] }
def JournalLastSaid : Prop := journalLastRow.holds Tryd.pinned (OpenSpec.ofChange journalLastSpec)

/-- ITS FALSE NEIGHBOUR: 'it returns false'. Refute it at one input. -/
def journalLastWrong : ChangeSpec := { name := "journalLast", fn := fun _ => fun
  | [d] => { results := [.lit (.bool false)], args := [d] }
  | _ => none }
def JournalLastWrongFalsely : Prop := journalLastRow.holds Tryd.pinned (OpenSpec.ofChange journalLastWrong)

/-- 'kilnlaw17.JournalAgain': WHATEVER THE INPUT: true; the input reads as it did. -/
def journalAgainSpec : ChangeSpec := { name := "journalAgain", fn := fun _ => fun
  | [d1, d2] => { results := [.lit (.bool true)], args := [d1, d2] }
  | _ => none }
def journalAgainRow : OpenClaim := { program := "ytagodmmpkapgnaadoor", sum := "43e311ba3df25d6ba3bf066ba6113d8348ceaafa69ff36169fcc6ddd454e0e77", func := "kiln/kilnlaw17.JournalAgain", spec := "journalAgain", named := ["kiln/wire.half"], apart := false, laid := [("kiln/wire.half", laid_kiln_wire_half)] }
def JournalAgainSaid : Prop := journalAgainRow.holds Tryd.pinned (OpenSpec.ofChange journalAgainSpec)

/-- ITS FALSE NEIGHBOUR: 'it returns false'. Refute it at one input. -/
def journalAgainWrong : ChangeSpec := { name := "journalAgain", fn := fun _ => fun
  | [d1, d2] => { results := [.lit (.bool false)], args := [d1, d2] }
  | _ => none }
def JournalAgainWrongFalsely : Prop := journalAgainRow.holds Tryd.pinned (OpenSpec.ofChange journalAgainWrong)

/-- 'kilnlaw17.JournalLent': WHATEVER THE INPUT: true; the input reads as it did. -/
def journalLentSpec : ChangeSpec := { name := "journalLent", fn := fun _ => fun
  | [d1, d2] => { results := [.lit (.bool true)], args := [d1, d2] }
  | _ => none }
def journalLentRow : OpenClaim := { program := "ytagodmmpkapgnaadoor", sum := "43e311ba3df25d6ba3bf066ba6113d8348ceaafa69ff36169fcc6ddd454e0e77", func := "kiln/kilnlaw17.JournalLent", spec := "journalLent", named := ["kiln/wire.half"], apart := false, laid := [("kiln/wire.half", laid_kiln_wire_half)] }
def JournalLentSaid : Prop := journalLentRow.holds Tryd.pinned (OpenSpec.ofChange journalLentSpec)

/-- ITS FALSE NEIGHBOUR: 'it returns false'. Refute it at one input. -/
def journalLentWrong : ChangeSpec := { name := "journalLent", fn := fun _ => fun
  | [d1, d2] => { results := [.lit (.bool false)], args := [d1, d2] }
  | _ => none }
def JournalLentWrongFalsely : Prop := journalLentRow.holds Tryd.pinned (OpenSpec.ofChange journalLentWrong)

/-- 'kilnlaw17.JournalArgs': WHATEVER THE INPUT: true; the input reads as it did. -/
def journalArgsSpec : ChangeSpec := { name := "journalArgs", fn := fun _ => fun
  | [d1, d2, d3] => { results := [.lit (.bool true)], args := [d1, d2, d3] }
  | _ => none }
def journalArgsRow : OpenClaim := { program := "ytagodmmpkapgnaadoor", sum := "43e311ba3df25d6ba3bf066ba6113d8348ceaafa69ff36169fcc6ddd454e0e77", func := "kiln/kilnlaw17.JournalArgs", spec := "journalArgs", named := ["kiln/wire.half"], apart := false, laid := [("kiln/wire.half", laid_kiln_wire_half)] }
def JournalArgsSaid : Prop := journalArgsRow.holds Tryd.pinned (OpenSpec.ofChange journalArgsSpec)

/-- ITS FALSE NEIGHBOUR: 'it returns false'. Refute it at one input. -/
def journalArgsWrong : ChangeSpec := { name := "journalArgs", fn := fun _ => fun
  | [d1, d2, d3] => { results := [.lit (.bool false)], args := [d1, d2, d3] }
  | _ => none }
def JournalArgsWrongFalsely : Prop := journalArgsRow.holds Tryd.pinned (OpenSpec.ofChange journalArgsWrong)

/-- 'kilnlaw17.JournalBit': WHATEVER THE INPUT: true; the input reads as it did. -/
def journalBitSpec : ChangeSpec := { name := "journalBit", fn := fun _ => fun
  | [d1, d2, d3, d4, d5] => { results := [.lit (.bool true)], args := [d1, d2, d3, d4, d5] }
  | _ => none }
def journalBitRow : OpenClaim := { program := "ytagodmmpkapgnaadoor", sum := "43e311ba3df25d6ba3bf066ba6113d8348ceaafa69ff36169fcc6ddd454e0e77", func := "kiln/kilnlaw17.JournalBit", spec := "journalBit", named := ["kiln/wire.half"], apart := false, laid := [("kiln/wire.half", laid_kiln_wire_half)] }
def JournalBitSaid : Prop := journalBitRow.holds Tryd.pinned (OpenSpec.ofChange journalBitSpec)

/-- ITS FALSE NEIGHBOUR: 'it returns false'. Refute it at one input. -/
def journalBitWrong : ChangeSpec := { name := "journalBit", fn := fun _ => fun
  | [d1, d2, d3, d4, d5] => { results := [.lit (.bool false)], args := [d1, d2, d3, d4, d5] }
  | _ => none }
def JournalBitWrongFalsely : Prop := journalBitRow.holds Tryd.pinned (OpenSpec.ofChange journalBitWrong)

/-- 'kilnlaw17.JournalWide': WHATEVER THE INPUT: true; the input reads as it did. -/
def journalWideSpec : ChangeSpec := { name := "journalWide", fn := fun _ => fun
  | [d1, d2, d3, d4] => { results := [.lit (.bool true)], args := [d1, d2, d3, d4] }
  | _ => none }
def journalWideRow : OpenClaim := { program := "ytagodmmpkapgnaadoor", sum := "43e311ba3df25d6ba3bf066ba6113d8348ceaafa69ff36169fcc6ddd454e0e77", func := "kiln/kilnlaw17.JournalWide", spec := "journalWide", named := ["kiln/wire.half"], apart := false, laid := [("kiln/wire.half", laid_kiln_wire_half)] }
def JournalWideSaid : Prop := journalWideRow.holds Tryd.pinned (OpenSpec.ofChange journalWideSpec)

/-- ITS FALSE NEIGHBOUR: 'it returns false'. Refute it at one input. -/
def journalWideWrong : ChangeSpec := { name := "journalWide", fn := fun _ => fun
  | [d1, d2, d3, d4] => { results := [.lit (.bool false)], args := [d1, d2, d3, d4] }
  | _ => none }
def JournalWideWrongFalsely : Prop := journalWideRow.holds Tryd.pinned (OpenSpec.ofChange journalWideWrong)

/-- 'kilnlaw17.JournalKeeps': WHATEVER THE INPUT: true; the input reads as it did. -/
def journalKeepsSpec : ChangeSpec := { name := "journalKeeps", fn := fun _ => fun
  | [d1, d2] => { results := [.lit (.bool true)], args := [d1, d2] }
  | _ => none }
def journalKeepsRow : OpenClaim := { program := "ytagodmmpkapgnaadoor", sum := "43e311ba3df25d6ba3bf066ba6113d8348ceaafa69ff36169fcc6ddd454e0e77", func := "kiln/kilnlaw17.JournalKeeps", spec := "journalKeeps", unfollowed := true, recurses := true, named := ["kiln/wire.half"], apart := false, laid := [("kiln/wire.half", laid_kiln_wire_half)] }
def JournalKeepsSaid : Prop := journalKeepsRow.holds Tryd.pinned (OpenSpec.ofChange journalKeepsSpec)

/-- ITS FALSE NEIGHBOUR: 'it returns false'. Refute it at one input. -/
def journalKeepsWrong : ChangeSpec := { name := "journalKeeps", fn := fun _ => fun
  | [d1, d2] => { results := [.lit (.bool false)], args := [d1, d2] }
  | _ => none }
def JournalKeepsWrongFalsely : Prop := journalKeepsRow.holds Tryd.pinned (OpenSpec.ofChange journalKeepsWrong)

/-- 'kilnlaw17.JournalPlays': WHATEVER THE INPUT: true; the input reads as it did. -/
def journalPlaysSpec : ChangeSpec := { name := "journalPlays", fn := fun _ => fun
  | [d] => { results := [.lit (.bool true)], args := [d] }
  | _ => none }
def journalPlaysRow : OpenClaim := { program := "ytagodmmpkapgnaadoor", sum := "43e311ba3df25d6ba3bf066ba6113d8348ceaafa69ff36169fcc6ddd454e0e77", func := "kiln/kilnlaw17.JournalPlays", spec := "journalPlays", unfollowed := true, recurses := true, named := ["kiln/wire.half"], apart := false, laid := [("kiln/wire.half", laid_kiln_wire_half)] }
def JournalPlaysSaid : Prop := journalPlaysRow.holds Tryd.pinned (OpenSpec.ofChange journalPlaysSpec)

/-- ITS FALSE NEIGHBOUR: 'it returns false'. Refute it at one input. -/
def journalPlaysWrong : ChangeSpec := { name := "journalPlays", fn := fun _ => fun
  | [d] => { results := [.lit (.bool false)], args := [d] }
  | _ => none }
def JournalPlaysWrongFalsely : Prop := journalPlaysRow.holds Tryd.pinned (OpenSpec.ofChange journalPlaysWrong)

/- THE SECOND FORM. 'bulk': how many values and letters a reading holds, each counted each time it is reached (what is shared counts as often as it is met; a slice's spare places count too). A statement '..UptoSaid' is the law's where the arguments, and the package variables that the reading takes, are together of bulk at most 1048576: NARROWER than '..Said'. Prove '..Said' where nothing that the law and all that it calls make is longer than what came in: it says more and counts as full. Else prove '..UptoSaid'. A law counts once. -/
mutual
def uptoBulk {H : Type} : DataW H → Nat
  | .lit (.string bytes) => bytes.length + 1
  | .lit _ => 1
  | .nil => 1
  | .ptr d => uptoBulk d + 1
  | .slice elems spare => uptoBulkAll elems + uptoBulkAll spare + 1
  | .agg parts => uptoBulkAll parts + 1
  | .iface _ d => uptoBulk d + 1
  | .map entries => uptoBulkEntries entries + 1
  | .held _ => 1
def uptoBulkAll {H : Type} : List (DataW H) → Nat
  | [] => 0
  | d :: r => uptoBulk d + uptoBulkAll r
def uptoBulkEntries {H : Type} : List (Lit × DataW H) → Nat
  | [] => 0
  | x :: r => uptoBulkEntry x + uptoBulkEntries r
def uptoBulkEntry {H : Type} : Lit × DataW H → Nat
  | (.string bytes, d) => bytes.length + uptoBulk d + 1
  | (_, d) => uptoBulk d + 1
 end
def uptoSmall : (H : Type) → List (DataW H) → Bool := fun _ ds => decide (uptoBulkAll ds ≤ 1048576)
def OpenSpec.upto (s : _root_.Go.ChangeSpec) : _root_.Go.OpenSpec := { _root_.Go.OpenSpec.ofChange s with cond := some uptoSmall }

/-- 'kilnlaw17.JournalWrites', WHERE WHAT IT READS IS OF BULK AT MOST 1048576: true; the input reads as it did. -/
def journalWritesUptoRow : OpenClaim := { program := "ytagodmmpkapgnaadoor", sum := "43e311ba3df25d6ba3bf066ba6113d8348ceaafa69ff36169fcc6ddd454e0e77", func := "kiln/kilnlaw17.JournalWrites", spec := "journalWrites", named := ["kiln/wire.half"], apart := false, laid := [("kiln/wire.half", laid_kiln_wire_half)], narrowed := true }
def JournalWritesUptoSaid : Prop := journalWritesUptoRow.holds Tryd.pinned (OpenSpec.upto journalWritesSpec)

/-- 'kilnlaw17.JournalReads', WHERE WHAT IT READS IS OF BULK AT MOST 1048576: true; the input reads as it did. -/
def journalReadsUptoRow : OpenClaim := { program := "ytagodmmpkapgnaadoor", sum := "43e311ba3df25d6ba3bf066ba6113d8348ceaafa69ff36169fcc6ddd454e0e77", func := "kiln/kilnlaw17.JournalReads", spec := "journalReads", named := ["kiln/wire.half"], apart := false, laid := [("kiln/wire.half", laid_kiln_wire_half)], narrowed := true }
def JournalReadsUptoSaid : Prop := journalReadsUptoRow.holds Tryd.pinned (OpenSpec.upto journalReadsSpec)

/-- 'kilnlaw17.JournalBack', WHERE WHAT IT READS IS OF BULK AT MOST 1048576: true; the input reads as it did. -/
def journalBackUptoRow : OpenClaim := { program := "ytagodmmpkapgnaadoor", sum := "43e311ba3df25d6ba3bf066ba6113d8348ceaafa69ff36169fcc6ddd454e0e77", func := "kiln/kilnlaw17.JournalBack", spec := "journalBack", named := ["kiln/wire.half"], apart := false, laid := [("kiln/wire.half", laid_kiln_wire_half)], narrowed := true }
def JournalBackUptoSaid : Prop := journalBackUptoRow.holds Tryd.pinned (OpenSpec.upto journalBackSpec)

/-- 'kilnlaw17.JournalLast', WHERE WHAT IT READS IS OF BULK AT MOST 1048576: true; the input reads as it did. -/
def journalLastUptoRow : OpenClaim := { program := "ytagodmmpkapgnaadoor", sum := "43e311ba3df25d6ba3bf066ba6113d8348ceaafa69ff36169fcc6ddd454e0e77", func := "kiln/kilnlaw17.JournalLast", spec := "journalLast", named := ["kiln/wire.half"], apart := false, laid := [("kiln/wire.half", laid_kiln_wire_half)], narrowed := true }
def JournalLastUptoSaid : Prop := journalLastUptoRow.holds Tryd.pinned (OpenSpec.upto journalLastSpec)

/-- 'kilnlaw17.JournalAgain', WHERE WHAT IT READS IS OF BULK AT MOST 1048576: true; the input reads as it did. -/
def journalAgainUptoRow : OpenClaim := { program := "ytagodmmpkapgnaadoor", sum := "43e311ba3df25d6ba3bf066ba6113d8348ceaafa69ff36169fcc6ddd454e0e77", func := "kiln/kilnlaw17.JournalAgain", spec := "journalAgain", named := ["kiln/wire.half"], apart := false, laid := [("kiln/wire.half", laid_kiln_wire_half)], narrowed := true }
def JournalAgainUptoSaid : Prop := journalAgainUptoRow.holds Tryd.pinned (OpenSpec.upto journalAgainSpec)

/-- 'kilnlaw17.JournalLent', WHERE WHAT IT READS IS OF BULK AT MOST 1048576: true; the input reads as it did. -/
def journalLentUptoRow : OpenClaim := { program := "ytagodmmpkapgnaadoor", sum := "43e311ba3df25d6ba3bf066ba6113d8348ceaafa69ff36169fcc6ddd454e0e77", func := "kiln/kilnlaw17.JournalLent", spec := "journalLent", named := ["kiln/wire.half"], apart := false, laid := [("kiln/wire.half", laid_kiln_wire_half)], narrowed := true }
def JournalLentUptoSaid : Prop := journalLentUptoRow.holds Tryd.pinned (OpenSpec.upto journalLentSpec)

/-- 'kilnlaw17.JournalArgs', WHERE WHAT IT READS IS OF BULK AT MOST 1048576: true; the input reads as it did. -/
def journalArgsUptoRow : OpenClaim := { program := "ytagodmmpkapgnaadoor", sum := "43e311ba3df25d6ba3bf066ba6113d8348ceaafa69ff36169fcc6ddd454e0e77", func := "kiln/kilnlaw17.JournalArgs", spec := "journalArgs", named := ["kiln/wire.half"], apart := false, laid := [("kiln/wire.half", laid_kiln_wire_half)], narrowed := true }
def JournalArgsUptoSaid : Prop := journalArgsUptoRow.holds Tryd.pinned (OpenSpec.upto journalArgsSpec)

/-- 'kilnlaw17.JournalBit', WHERE WHAT IT READS IS OF BULK AT MOST 1048576: true; the input reads as it did. -/
def journalBitUptoRow : OpenClaim := { program := "ytagodmmpkapgnaadoor", sum := "43e311ba3df25d6ba3bf066ba6113d8348ceaafa69ff36169fcc6ddd454e0e77", func := "kiln/kilnlaw17.JournalBit", spec := "journalBit", named := ["kiln/wire.half"], apart := false, laid := [("kiln/wire.half", laid_kiln_wire_half)], narrowed := true }
def JournalBitUptoSaid : Prop := journalBitUptoRow.holds Tryd.pinned (OpenSpec.upto journalBitSpec)

/-- 'kilnlaw17.JournalWide', WHERE WHAT IT READS IS OF BULK AT MOST 1048576: true; the input reads as it did. -/
def journalWideUptoRow : OpenClaim := { program := "ytagodmmpkapgnaadoor", sum := "43e311ba3df25d6ba3bf066ba6113d8348ceaafa69ff36169fcc6ddd454e0e77", func := "kiln/kilnlaw17.JournalWide", spec := "journalWide", named := ["kiln/wire.half"], apart := false, laid := [("kiln/wire.half", laid_kiln_wire_half)], narrowed := true }
def JournalWideUptoSaid : Prop := journalWideUptoRow.holds Tryd.pinned (OpenSpec.upto journalWideSpec)

/-- 'kilnlaw17.JournalKeeps', WHERE WHAT IT READS IS OF BULK AT MOST 1048576: true; the input reads as it did. -/
def journalKeepsUptoRow : OpenClaim := { program := "ytagodmmpkapgnaadoor", sum := "43e311ba3df25d6ba3bf066ba6113d8348ceaafa69ff36169fcc6ddd454e0e77", func := "kiln/kilnlaw17.JournalKeeps", spec := "journalKeeps", unfollowed := true, recurses := true, named := ["kiln/wire.half"], apart := false, laid := [("kiln/wire.half", laid_kiln_wire_half)], narrowed := true }
def JournalKeepsUptoSaid : Prop := journalKeepsUptoRow.holds Tryd.pinned (OpenSpec.upto journalKeepsSpec)

/-- 'kilnlaw17.JournalPlays', WHERE WHAT IT READS IS OF BULK AT MOST 1048576: true; the input reads as it did. -/
def journalPlaysUptoRow : OpenClaim := { program := "ytagodmmpkapgnaadoor", sum := "43e311ba3df25d6ba3bf066ba6113d8348ceaafa69ff36169fcc6ddd454e0e77", func := "kiln/kilnlaw17.JournalPlays", spec := "journalPlays", unfollowed := true, recurses := true, named := ["kiln/wire.half"], apart := false, laid := [("kiln/wire.half", laid_kiln_wire_half)], narrowed := true }
def JournalPlaysUptoSaid : Prop := journalPlaysUptoRow.holds Tryd.pinned (OpenSpec.upto journalPlaysSpec)

end Rows
end Go.Proofs.YtagodmmpkapgnaaDoor
