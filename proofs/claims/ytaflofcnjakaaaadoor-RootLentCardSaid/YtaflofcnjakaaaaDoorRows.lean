/-
  NARROWER THAN 'FOR EVERY INPUT', by the rows' own cells (each row's printed sentence says how): RootCodes: laid · RootWrites: laid · RootReads: laid · RootBack: laid · RootOneForm: laid · RootOneBit: laid · RootElsewhere: laid · RootLent: laid · RootNewest: laid.
  DERIVED. THE GIVEN ROWS OF THIS SEAT. 9 by the template 'for every input the law returns true; each argument reads behind the call as it read before'; 0 by the template 'total and deterministic' (their statements: YtaflofcnjakaaaaDoorTotals.lean).
  GIVEN WITH THE SEED: the statements are not yours to turn. If you find one false, say at which input.
  Laid BY PROGRAM, IN A SANDBOX (cutbox-rows.mjs): the forced cells as the released guide's own fill.sh prints them over the translation 526c1ecf65315d91… (all of the seat's roots in one cut). By AI agents, Wed Nov 11 2026. No macro, syntax, notation, axiom, sorry.
-/
import Derived.Test.YtaflofcnjakaaaaDoorChecked
import GoSem.Claim
import GoSem.ClaimJoined
import GoSem.ClaimMapViews
import Derived.JoinedTies
import Derived.KernelRfl
namespace Go.Proofs.YtaflofcnjakaaaaDoor
/- THE CELL 'sum', in the pinned program and in every row, IS THE sha256 OF THE DUMP (.gsa) THAT YtaflofcnjakaaaaDoorProg.lean LOADS. Nothing in Lean hashes anything: it is a label: what it is worth is what the hold of that sum in a sandbox is worth. -/
noncomputable def Tryd.pinned : Pinned := { name := "ytaflofcnjakaaaadoor", sum := "526c1ecf65315d91a632d26de162fc201edc5a1c368b247144a1a332f6722ef1", checked := Tryd.checked }
namespace Rows
def none {H : Type} : Left H := { results := [], args := [] }

/- WHAT THE LISTED PACKAGE-LEVEL VARIABLES READ AS WHEN THE CALL BEGINS. Each datum BY PROGRAM (the guide's laid-datum.mjs) off the statement by which the dump's own 'gosem.cut.vars' lays the variable. In a bare row this is a premise. The card (YtaflofcnjakaaaaDoorCards.lean) ties it to the program's text. -/
def laid_kiln_wire_half {H : Type} : DataW H := .agg [.lit (.int .u32 0), .lit (.int .u32 498536548), .lit (.int .u32 997073096), .lit (.int .u32 651767980), .lit (.int .u32 1994146192), .lit (.int .u32 1802195444), .lit (.int .u32 1303535960), .lit (.int .u32 1342533948), .lit (.int .u32 3988292384), .lit (.int .u32 4027552580), .lit (.int .u32 3604390888), .lit (.int .u32 3412177804), .lit (.int .u32 2607071920), .lit (.int .u32 2262029012), .lit (.int .u32 2685067896), .lit (.int .u32 3183342108)]

/-- 'kilnlaw18.RootCodes': WHATEVER THE INPUT: true; the input reads as it did. -/
def rootCodesSpec : ChangeSpec := { name := "rootCodes", fn := fun _ => fun
  | [d1, d2] => { results := [.lit (.bool true)], args := [d1, d2] }
  | _ => none }
def rootCodesRow : OpenClaim := { program := "ytaflofcnjakaaaadoor", sum := "526c1ecf65315d91a632d26de162fc201edc5a1c368b247144a1a332f6722ef1", func := "kiln/kilnlaw18.RootCodes", spec := "rootCodes", unfollowed := true, recurses := true, named := ["kiln/wire.half"], apart := false, laid := [("kiln/wire.half", laid_kiln_wire_half)] }
def RootCodesSaid : Prop := rootCodesRow.holds Tryd.pinned (OpenSpec.ofChange rootCodesSpec)

/-- ITS FALSE NEIGHBOUR: 'it returns false'. Refute it at one input. -/
def rootCodesWrong : ChangeSpec := { name := "rootCodes", fn := fun _ => fun
  | [d1, d2] => { results := [.lit (.bool false)], args := [d1, d2] }
  | _ => none }
def RootCodesWrongFalsely : Prop := rootCodesRow.holds Tryd.pinned (OpenSpec.ofChange rootCodesWrong)

/-- 'kilnlaw18.RootWrites': WHATEVER THE INPUT: true; the input reads as it did. -/
def rootWritesSpec : ChangeSpec := { name := "rootWrites", fn := fun _ => fun
  | [d1, d2, d3] => { results := [.lit (.bool true)], args := [d1, d2, d3] }
  | _ => none }
def rootWritesRow : OpenClaim := { program := "ytaflofcnjakaaaadoor", sum := "526c1ecf65315d91a632d26de162fc201edc5a1c368b247144a1a332f6722ef1", func := "kiln/kilnlaw18.RootWrites", spec := "rootWrites", unfollowed := true, recurses := true, named := ["kiln/wire.half"], apart := false, laid := [("kiln/wire.half", laid_kiln_wire_half)] }
def RootWritesSaid : Prop := rootWritesRow.holds Tryd.pinned (OpenSpec.ofChange rootWritesSpec)

/-- ITS FALSE NEIGHBOUR: 'it returns false'. Refute it at one input. -/
def rootWritesWrong : ChangeSpec := { name := "rootWrites", fn := fun _ => fun
  | [d1, d2, d3] => { results := [.lit (.bool false)], args := [d1, d2, d3] }
  | _ => none }
def RootWritesWrongFalsely : Prop := rootWritesRow.holds Tryd.pinned (OpenSpec.ofChange rootWritesWrong)

/-- 'kilnlaw18.RootReads': WHATEVER THE INPUT: true; the input reads as it did. -/
def rootReadsSpec : ChangeSpec := { name := "rootReads", fn := fun _ => fun
  | [d1, d2] => { results := [.lit (.bool true)], args := [d1, d2] }
  | _ => none }
def rootReadsRow : OpenClaim := { program := "ytaflofcnjakaaaadoor", sum := "526c1ecf65315d91a632d26de162fc201edc5a1c368b247144a1a332f6722ef1", func := "kiln/kilnlaw18.RootReads", spec := "rootReads", unfollowed := true, recurses := true, named := ["kiln/wire.half"], apart := false, laid := [("kiln/wire.half", laid_kiln_wire_half)] }
def RootReadsSaid : Prop := rootReadsRow.holds Tryd.pinned (OpenSpec.ofChange rootReadsSpec)

/-- ITS FALSE NEIGHBOUR: 'it returns false'. Refute it at one input. -/
def rootReadsWrong : ChangeSpec := { name := "rootReads", fn := fun _ => fun
  | [d1, d2] => { results := [.lit (.bool false)], args := [d1, d2] }
  | _ => none }
def RootReadsWrongFalsely : Prop := rootReadsRow.holds Tryd.pinned (OpenSpec.ofChange rootReadsWrong)

/-- 'kilnlaw18.RootBack': WHATEVER THE INPUT: true; the input reads as it did. -/
def rootBackSpec : ChangeSpec := { name := "rootBack", fn := fun _ => fun
  | [d] => { results := [.lit (.bool true)], args := [d] }
  | _ => none }
def rootBackRow : OpenClaim := { program := "ytaflofcnjakaaaadoor", sum := "526c1ecf65315d91a632d26de162fc201edc5a1c368b247144a1a332f6722ef1", func := "kiln/kilnlaw18.RootBack", spec := "rootBack", unfollowed := true, recurses := true, named := ["kiln/wire.half"], apart := false, laid := [("kiln/wire.half", laid_kiln_wire_half)] }
def RootBackSaid : Prop := rootBackRow.holds Tryd.pinned (OpenSpec.ofChange rootBackSpec)

/-- ITS FALSE NEIGHBOUR: 'it returns false'. Refute it at one input. -/
def rootBackWrong : ChangeSpec := { name := "rootBack", fn := fun _ => fun
  | [d] => { results := [.lit (.bool false)], args := [d] }
  | _ => none }
def RootBackWrongFalsely : Prop := rootBackRow.holds Tryd.pinned (OpenSpec.ofChange rootBackWrong)

/-- 'kilnlaw18.RootOneForm': WHATEVER THE INPUT: true; the input reads as it did. -/
def rootOneFormSpec : ChangeSpec := { name := "rootOneForm", fn := fun _ => fun
  | [d] => { results := [.lit (.bool true)], args := [d] }
  | _ => none }
def rootOneFormRow : OpenClaim := { program := "ytaflofcnjakaaaadoor", sum := "526c1ecf65315d91a632d26de162fc201edc5a1c368b247144a1a332f6722ef1", func := "kiln/kilnlaw18.RootOneForm", spec := "rootOneForm", unfollowed := true, recurses := true, named := ["kiln/wire.half"], apart := false, laid := [("kiln/wire.half", laid_kiln_wire_half)] }
def RootOneFormSaid : Prop := rootOneFormRow.holds Tryd.pinned (OpenSpec.ofChange rootOneFormSpec)

/-- ITS FALSE NEIGHBOUR: 'it returns false'. Refute it at one input. -/
def rootOneFormWrong : ChangeSpec := { name := "rootOneForm", fn := fun _ => fun
  | [d] => { results := [.lit (.bool false)], args := [d] }
  | _ => none }
def RootOneFormWrongFalsely : Prop := rootOneFormRow.holds Tryd.pinned (OpenSpec.ofChange rootOneFormWrong)

/-- 'kilnlaw18.RootOneBit': WHATEVER THE INPUT: true; the input reads as it did. -/
def rootOneBitSpec : ChangeSpec := { name := "rootOneBit", fn := fun _ => fun
  | [d1, d2] => { results := [.lit (.bool true)], args := [d1, d2] }
  | _ => none }
def rootOneBitRow : OpenClaim := { program := "ytaflofcnjakaaaadoor", sum := "526c1ecf65315d91a632d26de162fc201edc5a1c368b247144a1a332f6722ef1", func := "kiln/kilnlaw18.RootOneBit", spec := "rootOneBit", unfollowed := true, recurses := true, named := ["kiln/wire.half"], apart := false, laid := [("kiln/wire.half", laid_kiln_wire_half)] }
def RootOneBitSaid : Prop := rootOneBitRow.holds Tryd.pinned (OpenSpec.ofChange rootOneBitSpec)

/-- ITS FALSE NEIGHBOUR: 'it returns false'. Refute it at one input. -/
def rootOneBitWrong : ChangeSpec := { name := "rootOneBit", fn := fun _ => fun
  | [d1, d2] => { results := [.lit (.bool false)], args := [d1, d2] }
  | _ => none }
def RootOneBitWrongFalsely : Prop := rootOneBitRow.holds Tryd.pinned (OpenSpec.ofChange rootOneBitWrong)

/-- 'kilnlaw18.RootElsewhere': WHATEVER THE INPUT: true; the input reads as it did. -/
def rootElsewhereSpec : ChangeSpec := { name := "rootElsewhere", fn := fun _ => fun
  | [d1, d2, d3] => { results := [.lit (.bool true)], args := [d1, d2, d3] }
  | _ => none }
def rootElsewhereRow : OpenClaim := { program := "ytaflofcnjakaaaadoor", sum := "526c1ecf65315d91a632d26de162fc201edc5a1c368b247144a1a332f6722ef1", func := "kiln/kilnlaw18.RootElsewhere", spec := "rootElsewhere", unfollowed := true, recurses := true, named := ["kiln/wire.half"], apart := false, laid := [("kiln/wire.half", laid_kiln_wire_half)] }
def RootElsewhereSaid : Prop := rootElsewhereRow.holds Tryd.pinned (OpenSpec.ofChange rootElsewhereSpec)

/-- ITS FALSE NEIGHBOUR: 'it returns false'. Refute it at one input. -/
def rootElsewhereWrong : ChangeSpec := { name := "rootElsewhere", fn := fun _ => fun
  | [d1, d2, d3] => { results := [.lit (.bool false)], args := [d1, d2, d3] }
  | _ => none }
def RootElsewhereWrongFalsely : Prop := rootElsewhereRow.holds Tryd.pinned (OpenSpec.ofChange rootElsewhereWrong)

/-- 'kilnlaw18.RootLent': WHATEVER THE INPUT: true; the input reads as it did. -/
def rootLentSpec : ChangeSpec := { name := "rootLent", fn := fun _ => fun
  | [d1, d2] => { results := [.lit (.bool true)], args := [d1, d2] }
  | _ => none }
def rootLentRow : OpenClaim := { program := "ytaflofcnjakaaaadoor", sum := "526c1ecf65315d91a632d26de162fc201edc5a1c368b247144a1a332f6722ef1", func := "kiln/kilnlaw18.RootLent", spec := "rootLent", unfollowed := true, recurses := true, named := ["kiln/wire.half"], apart := false, laid := [("kiln/wire.half", laid_kiln_wire_half)] }
def RootLentSaid : Prop := rootLentRow.holds Tryd.pinned (OpenSpec.ofChange rootLentSpec)

/-- ITS FALSE NEIGHBOUR: 'it returns false'. Refute it at one input. -/
def rootLentWrong : ChangeSpec := { name := "rootLent", fn := fun _ => fun
  | [d1, d2] => { results := [.lit (.bool false)], args := [d1, d2] }
  | _ => none }
def RootLentWrongFalsely : Prop := rootLentRow.holds Tryd.pinned (OpenSpec.ofChange rootLentWrong)

/-- 'kilnlaw18.RootNewest': WHATEVER THE INPUT: true; the input reads as it did. -/
def rootNewestSpec : ChangeSpec := { name := "rootNewest", fn := fun _ => fun
  | [d1, d2] => { results := [.lit (.bool true)], args := [d1, d2] }
  | _ => none }
def rootNewestRow : OpenClaim := { program := "ytaflofcnjakaaaadoor", sum := "526c1ecf65315d91a632d26de162fc201edc5a1c368b247144a1a332f6722ef1", func := "kiln/kilnlaw18.RootNewest", spec := "rootNewest", unfollowed := true, recurses := true, named := ["kiln/wire.half"], apart := false, laid := [("kiln/wire.half", laid_kiln_wire_half)] }
def RootNewestSaid : Prop := rootNewestRow.holds Tryd.pinned (OpenSpec.ofChange rootNewestSpec)

/-- ITS FALSE NEIGHBOUR: 'it returns false'. Refute it at one input. -/
def rootNewestWrong : ChangeSpec := { name := "rootNewest", fn := fun _ => fun
  | [d1, d2] => { results := [.lit (.bool false)], args := [d1, d2] }
  | _ => none }
def RootNewestWrongFalsely : Prop := rootNewestRow.holds Tryd.pinned (OpenSpec.ofChange rootNewestWrong)

/- THE SECOND FORM. 'bulk': how many values and letters a reading holds, each counted each time it is reached (what is shared counts as often as it is met; a slice's spare places count too). A statement '..UptoSaid' is the law's where the arguments, and the package variables that the reading takes, are together of bulk at most 1048576: NARROWER than '..Said'. Prove '..Said' where nothing that the law and all that it calls make is longer than what came in: it says more and counts as full. Else prove '..UptoSaid'. A law counts once. -/
mutual
def uptoBulk {H : Type} : DataW H → Nat
  | .lit (.string bytes) => bytes.length + 1
  | .lit _ => 1
  | .nil => 1
  | .ptr d => uptoBulk d + 1
  | .slice elems spare => uptoBulkAll elems + uptoBulkAll spare + 1
  | .agg parts => uptoBulkAll parts + 1
  | .iface _ d => uptoBulk d + 1
  | .map entries => uptoBulkEntries entries + 1
  | .held _ => 1
def uptoBulkAll {H : Type} : List (DataW H) → Nat
  | [] => 0
  | d :: r => uptoBulk d + uptoBulkAll r
def uptoBulkEntries {H : Type} : List (Lit × DataW H) → Nat
  | [] => 0
  | x :: r => uptoBulkEntry x + uptoBulkEntries r
def uptoBulkEntry {H : Type} : Lit × DataW H → Nat
  | (.string bytes, d) => bytes.length + uptoBulk d + 1
  | (_, d) => uptoBulk d + 1
 end
def uptoSmall : (H : Type) → List (DataW H) → Bool := fun _ ds => decide (uptoBulkAll ds ≤ 1048576)
def OpenSpec.upto (s : _root_.Go.ChangeSpec) : _root_.Go.OpenSpec := { _root_.Go.OpenSpec.ofChange s with cond := some uptoSmall }

/-- 'kilnlaw18.RootCodes', WHERE WHAT IT READS IS OF BULK AT MOST 1048576: true; the input reads as it did. -/
def rootCodesUptoRow : OpenClaim := { program := "ytaflofcnjakaaaadoor", sum := "526c1ecf65315d91a632d26de162fc201edc5a1c368b247144a1a332f6722ef1", func := "kiln/kilnlaw18.RootCodes", spec := "rootCodes", unfollowed := true, recurses := true, named := ["kiln/wire.half"], apart := false, laid := [("kiln/wire.half", laid_kiln_wire_half)], narrowed := true }
def RootCodesUptoSaid : Prop := rootCodesUptoRow.holds Tryd.pinned (OpenSpec.upto rootCodesSpec)

/-- 'kilnlaw18.RootWrites', WHERE WHAT IT READS IS OF BULK AT MOST 1048576: true; the input reads as it did. -/
def rootWritesUptoRow : OpenClaim := { program := "ytaflofcnjakaaaadoor", sum := "526c1ecf65315d91a632d26de162fc201edc5a1c368b247144a1a332f6722ef1", func := "kiln/kilnlaw18.RootWrites", spec := "rootWrites", unfollowed := true, recurses := true, named := ["kiln/wire.half"], apart := false, laid := [("kiln/wire.half", laid_kiln_wire_half)], narrowed := true }
def RootWritesUptoSaid : Prop := rootWritesUptoRow.holds Tryd.pinned (OpenSpec.upto rootWritesSpec)

/-- 'kilnlaw18.RootReads', WHERE WHAT IT READS IS OF BULK AT MOST 1048576: true; the input reads as it did. -/
def rootReadsUptoRow : OpenClaim := { program := "ytaflofcnjakaaaadoor", sum := "526c1ecf65315d91a632d26de162fc201edc5a1c368b247144a1a332f6722ef1", func := "kiln/kilnlaw18.RootReads", spec := "rootReads", unfollowed := true, recurses := true, named := ["kiln/wire.half"], apart := false, laid := [("kiln/wire.half", laid_kiln_wire_half)], narrowed := true }
def RootReadsUptoSaid : Prop := rootReadsUptoRow.holds Tryd.pinned (OpenSpec.upto rootReadsSpec)

/-- 'kilnlaw18.RootBack', WHERE WHAT IT READS IS OF BULK AT MOST 1048576: true; the input reads as it did. -/
def rootBackUptoRow : OpenClaim := { program := "ytaflofcnjakaaaadoor", sum := "526c1ecf65315d91a632d26de162fc201edc5a1c368b247144a1a332f6722ef1", func := "kiln/kilnlaw18.RootBack", spec := "rootBack", unfollowed := true, recurses := true, named := ["kiln/wire.half"], apart := false, laid := [("kiln/wire.half", laid_kiln_wire_half)], narrowed := true }
def RootBackUptoSaid : Prop := rootBackUptoRow.holds Tryd.pinned (OpenSpec.upto rootBackSpec)

/-- 'kilnlaw18.RootOneForm', WHERE WHAT IT READS IS OF BULK AT MOST 1048576: true; the input reads as it did. -/
def rootOneFormUptoRow : OpenClaim := { program := "ytaflofcnjakaaaadoor", sum := "526c1ecf65315d91a632d26de162fc201edc5a1c368b247144a1a332f6722ef1", func := "kiln/kilnlaw18.RootOneForm", spec := "rootOneForm", unfollowed := true, recurses := true, named := ["kiln/wire.half"], apart := false, laid := [("kiln/wire.half", laid_kiln_wire_half)], narrowed := true }
def RootOneFormUptoSaid : Prop := rootOneFormUptoRow.holds Tryd.pinned (OpenSpec.upto rootOneFormSpec)

/-- 'kilnlaw18.RootOneBit', WHERE WHAT IT READS IS OF BULK AT MOST 1048576: true; the input reads as it did. -/
def rootOneBitUptoRow : OpenClaim := { program := "ytaflofcnjakaaaadoor", sum := "526c1ecf65315d91a632d26de162fc201edc5a1c368b247144a1a332f6722ef1", func := "kiln/kilnlaw18.RootOneBit", spec := "rootOneBit", unfollowed := true, recurses := true, named := ["kiln/wire.half"], apart := false, laid := [("kiln/wire.half", laid_kiln_wire_half)], narrowed := true }
def RootOneBitUptoSaid : Prop := rootOneBitUptoRow.holds Tryd.pinned (OpenSpec.upto rootOneBitSpec)

/-- 'kilnlaw18.RootElsewhere', WHERE WHAT IT READS IS OF BULK AT MOST 1048576: true; the input reads as it did. -/
def rootElsewhereUptoRow : OpenClaim := { program := "ytaflofcnjakaaaadoor", sum := "526c1ecf65315d91a632d26de162fc201edc5a1c368b247144a1a332f6722ef1", func := "kiln/kilnlaw18.RootElsewhere", spec := "rootElsewhere", unfollowed := true, recurses := true, named := ["kiln/wire.half"], apart := false, laid := [("kiln/wire.half", laid_kiln_wire_half)], narrowed := true }
def RootElsewhereUptoSaid : Prop := rootElsewhereUptoRow.holds Tryd.pinned (OpenSpec.upto rootElsewhereSpec)

/-- 'kilnlaw18.RootLent', WHERE WHAT IT READS IS OF BULK AT MOST 1048576: true; the input reads as it did. -/
def rootLentUptoRow : OpenClaim := { program := "ytaflofcnjakaaaadoor", sum := "526c1ecf65315d91a632d26de162fc201edc5a1c368b247144a1a332f6722ef1", func := "kiln/kilnlaw18.RootLent", spec := "rootLent", unfollowed := true, recurses := true, named := ["kiln/wire.half"], apart := false, laid := [("kiln/wire.half", laid_kiln_wire_half)], narrowed := true }
def RootLentUptoSaid : Prop := rootLentUptoRow.holds Tryd.pinned (OpenSpec.upto rootLentSpec)

/-- 'kilnlaw18.RootNewest', WHERE WHAT IT READS IS OF BULK AT MOST 1048576: true; the input reads as it did. -/
def rootNewestUptoRow : OpenClaim := { program := "ytaflofcnjakaaaadoor", sum := "526c1ecf65315d91a632d26de162fc201edc5a1c368b247144a1a332f6722ef1", func := "kiln/kilnlaw18.RootNewest", spec := "rootNewest", unfollowed := true, recurses := true, named := ["kiln/wire.half"], apart := false, laid := [("kiln/wire.half", laid_kiln_wire_half)], narrowed := true }
def RootNewestUptoSaid : Prop := rootNewestUptoRow.holds Tryd.pinned (OpenSpec.upto rootNewestSpec)

end Rows
end Go.Proofs.YtaflofcnjakaaaaDoor
