/-
  NARROWER THAN 'FOR EVERY INPUT', by the rows' own cells (each row's printed sentence says how): WireSums: laid · WireTells: laid · WireUnlike: laid · WireNumbers: laid · WireStrings: laid · WirePlays: laid · WireBack: laid · WireOneWay: laid · WireCuts: laid · WireOwn: laid · WireAgain: laid · WireLent: laid · WireMany: laid.
  DERIVED. THE GIVEN ROWS OF THIS SEAT. 13 by the template 'for every input the law returns true; each argument reads behind the call as it read before'; 0 by the template 'total and deterministic' (their statements: YthmnomdjpbfefaaDoorTotals.lean).
  GIVEN WITH THE SEED: the statements are not yours to turn. If you find one false, say at which input.
  Laid BY PROGRAM, IN A SANDBOX (cutbox-rows.mjs): the forced cells as the released guide's own fill.sh prints them over the translation 572b2c29d5d26a73… (all of the seat's roots in one cut). By AI agents, Wed Nov 11 2026. No macro, syntax, notation, axiom, sorry.
-/
import Derived.Test.YthmnomdjpbfefaaDoorChecked
import GoSem.Claim
import GoSem.ClaimJoined
import GoSem.ClaimMapViews
import Derived.JoinedTies
import Derived.KernelRfl
namespace Go.Proofs.YthmnomdjpbfefaaDoor
/- THE CELL 'sum', in the pinned program and in every row, IS THE sha256 OF THE DUMP (.gsa) THAT YthmnomdjpbfefaaDoorProg.lean LOADS. Nothing in Lean hashes anything: it is a label: what it is worth is what the hold of that sum in a sandbox is worth. -/
noncomputable def Tryd.pinned : Pinned := { name := "ythmnomdjpbfefaadoor", sum := "572b2c29d5d26a7353d37a89c9bc5390a1b0758d94b166ea50074c3be41646dd", checked := Tryd.checked }
namespace Rows
def none {H : Type} : Left H := { results := [], args := [] }

/- WHAT THE LISTED PACKAGE-LEVEL VARIABLES READ AS WHEN THE CALL BEGINS. Each datum BY PROGRAM (the guide's laid-datum.mjs) off the statement by which the dump's own 'gosem.cut.vars' lays the variable. In a bare row this is a premise. The card (YthmnomdjpbfefaaDoorCards.lean) ties it to the program's text. -/
def laid_kiln_wire_half {H : Type} : DataW H := .agg [.lit (.int .u32 0), .lit (.int .u32 498536548), .lit (.int .u32 997073096), .lit (.int .u32 651767980), .lit (.int .u32 1994146192), .lit (.int .u32 1802195444), .lit (.int .u32 1303535960), .lit (.int .u32 1342533948), .lit (.int .u32 3988292384), .lit (.int .u32 4027552580), .lit (.int .u32 3604390888), .lit (.int .u32 3412177804), .lit (.int .u32 2607071920), .lit (.int .u32 2262029012), .lit (.int .u32 2685067896), .lit (.int .u32 3183342108)]

/-- 'kilnlaw1.WireSums': WHATEVER THE INPUT: true; the input reads as it did. -/
def wireSumsSpec : ChangeSpec := { name := "wireSums", fn := fun _ => fun
  | [d1, d2, d3, d4] => { results := [.lit (.bool true)], args := [d1, d2, d3, d4] }
  | _ => none }
def wireSumsRow : OpenClaim := { program := "ythmnomdjpbfefaadoor", sum := "572b2c29d5d26a7353d37a89c9bc5390a1b0758d94b166ea50074c3be41646dd", func := "kiln/kilnlaw1.WireSums", spec := "wireSums", named := ["kiln/wire.half"], apart := false, laid := [("kiln/wire.half", laid_kiln_wire_half)] }
def WireSumsSaid : Prop := wireSumsRow.holds Tryd.pinned (OpenSpec.ofChange wireSumsSpec)

/-- ITS FALSE NEIGHBOUR: 'it returns false'. Refute it at one input. -/
def wireSumsWrong : ChangeSpec := { name := "wireSums", fn := fun _ => fun
  | [d1, d2, d3, d4] => { results := [.lit (.bool false)], args := [d1, d2, d3, d4] }
  | _ => none }
def WireSumsWrongFalsely : Prop := wireSumsRow.holds Tryd.pinned (OpenSpec.ofChange wireSumsWrong)

/-- 'kilnlaw1.WireTells': WHATEVER THE INPUT: true; the input reads as it did. -/
def wireTellsSpec : ChangeSpec := { name := "wireTells", fn := fun _ => fun
  | [d1, d2, d3, d4, d5, d6] => { results := [.lit (.bool true)], args := [d1, d2, d3, d4, d5, d6] }
  | _ => none }
def wireTellsRow : OpenClaim := { program := "ythmnomdjpbfefaadoor", sum := "572b2c29d5d26a7353d37a89c9bc5390a1b0758d94b166ea50074c3be41646dd", func := "kiln/kilnlaw1.WireTells", spec := "wireTells", named := ["kiln/wire.half"], apart := false, laid := [("kiln/wire.half", laid_kiln_wire_half)] }
def WireTellsSaid : Prop := wireTellsRow.holds Tryd.pinned (OpenSpec.ofChange wireTellsSpec)

/-- ITS FALSE NEIGHBOUR: 'it returns false'. Refute it at one input. -/
def wireTellsWrong : ChangeSpec := { name := "wireTells", fn := fun _ => fun
  | [d1, d2, d3, d4, d5, d6] => { results := [.lit (.bool false)], args := [d1, d2, d3, d4, d5, d6] }
  | _ => none }
def WireTellsWrongFalsely : Prop := wireTellsRow.holds Tryd.pinned (OpenSpec.ofChange wireTellsWrong)

/-- 'kilnlaw1.WireUnlike': WHATEVER THE INPUT: true; the input reads as it did. -/
def wireUnlikeSpec : ChangeSpec := { name := "wireUnlike", fn := fun _ => fun
  | [d1, d2, d3, d4] => { results := [.lit (.bool true)], args := [d1, d2, d3, d4] }
  | _ => none }
def wireUnlikeRow : OpenClaim := { program := "ythmnomdjpbfefaadoor", sum := "572b2c29d5d26a7353d37a89c9bc5390a1b0758d94b166ea50074c3be41646dd", func := "kiln/kilnlaw1.WireUnlike", spec := "wireUnlike", named := ["kiln/wire.half"], apart := false, laid := [("kiln/wire.half", laid_kiln_wire_half)] }
def WireUnlikeSaid : Prop := wireUnlikeRow.holds Tryd.pinned (OpenSpec.ofChange wireUnlikeSpec)

/-- ITS FALSE NEIGHBOUR: 'it returns false'. Refute it at one input. -/
def wireUnlikeWrong : ChangeSpec := { name := "wireUnlike", fn := fun _ => fun
  | [d1, d2, d3, d4] => { results := [.lit (.bool false)], args := [d1, d2, d3, d4] }
  | _ => none }
def WireUnlikeWrongFalsely : Prop := wireUnlikeRow.holds Tryd.pinned (OpenSpec.ofChange wireUnlikeWrong)

/-- 'kilnlaw1.WireNumbers': WHATEVER THE INPUT: true; the input reads as it did. -/
def wireNumbersSpec : ChangeSpec := { name := "wireNumbers", fn := fun _ => fun
  | [d] => { results := [.lit (.bool true)], args := [d] }
  | _ => none }
def wireNumbersRow : OpenClaim := { program := "ythmnomdjpbfefaadoor", sum := "572b2c29d5d26a7353d37a89c9bc5390a1b0758d94b166ea50074c3be41646dd", func := "kiln/kilnlaw1.WireNumbers", spec := "wireNumbers", named := ["kiln/wire.half"], apart := false, laid := [("kiln/wire.half", laid_kiln_wire_half)] }
def WireNumbersSaid : Prop := wireNumbersRow.holds Tryd.pinned (OpenSpec.ofChange wireNumbersSpec)

/-- ITS FALSE NEIGHBOUR: 'it returns false'. Refute it at one input. -/
def wireNumbersWrong : ChangeSpec := { name := "wireNumbers", fn := fun _ => fun
  | [d] => { results := [.lit (.bool false)], args := [d] }
  | _ => none }
def WireNumbersWrongFalsely : Prop := wireNumbersRow.holds Tryd.pinned (OpenSpec.ofChange wireNumbersWrong)

/-- 'kilnlaw1.WireStrings': WHATEVER THE INPUT: true; the input reads as it did. -/
def wireStringsSpec : ChangeSpec := { name := "wireStrings", fn := fun _ => fun
  | [d] => { results := [.lit (.bool true)], args := [d] }
  | _ => none }
def wireStringsRow : OpenClaim := { program := "ythmnomdjpbfefaadoor", sum := "572b2c29d5d26a7353d37a89c9bc5390a1b0758d94b166ea50074c3be41646dd", func := "kiln/kilnlaw1.WireStrings", spec := "wireStrings", named := ["kiln/wire.half"], apart := false, laid := [("kiln/wire.half", laid_kiln_wire_half)] }
def WireStringsSaid : Prop := wireStringsRow.holds Tryd.pinned (OpenSpec.ofChange wireStringsSpec)

/-- ITS FALSE NEIGHBOUR: 'it returns false'. Refute it at one input. -/
def wireStringsWrong : ChangeSpec := { name := "wireStrings", fn := fun _ => fun
  | [d] => { results := [.lit (.bool false)], args := [d] }
  | _ => none }
def WireStringsWrongFalsely : Prop := wireStringsRow.holds Tryd.pinned (OpenSpec.ofChange wireStringsWrong)

/-- 'kilnlaw1.WirePlays': WHATEVER THE INPUT: true; the input reads as it did. -/
def wirePlaysSpec : ChangeSpec := { name := "wirePlays", fn := fun _ => fun
  | [d] => { results := [.lit (.bool true)], args := [d] }
  | _ => none }
def wirePlaysRow : OpenClaim := { program := "ythmnomdjpbfefaadoor", sum := "572b2c29d5d26a7353d37a89c9bc5390a1b0758d94b166ea50074c3be41646dd", func := "kiln/kilnlaw1.WirePlays", spec := "wirePlays", named := ["kiln/wire.half"], apart := false, laid := [("kiln/wire.half", laid_kiln_wire_half)] }
def WirePlaysSaid : Prop := wirePlaysRow.holds Tryd.pinned (OpenSpec.ofChange wirePlaysSpec)

/-- ITS FALSE NEIGHBOUR: 'it returns false'. Refute it at one input. -/
def wirePlaysWrong : ChangeSpec := { name := "wirePlays", fn := fun _ => fun
  | [d] => { results := [.lit (.bool false)], args := [d] }
  | _ => none }
def WirePlaysWrongFalsely : Prop := wirePlaysRow.holds Tryd.pinned (OpenSpec.ofChange wirePlaysWrong)

/-- 'kilnlaw1.WireBack': WHATEVER THE INPUT: true; the input reads as it did. -/
def wireBackSpec : ChangeSpec := { name := "wireBack", fn := fun _ => fun
  | [d1, d2, d3, d4] => { results := [.lit (.bool true)], args := [d1, d2, d3, d4] }
  | _ => none }
def wireBackRow : OpenClaim := { program := "ythmnomdjpbfefaadoor", sum := "572b2c29d5d26a7353d37a89c9bc5390a1b0758d94b166ea50074c3be41646dd", func := "kiln/kilnlaw1.WireBack", spec := "wireBack", named := ["kiln/wire.half"], apart := false, laid := [("kiln/wire.half", laid_kiln_wire_half)] }
def WireBackSaid : Prop := wireBackRow.holds Tryd.pinned (OpenSpec.ofChange wireBackSpec)

/-- ITS FALSE NEIGHBOUR: 'it returns false'. Refute it at one input. -/
def wireBackWrong : ChangeSpec := { name := "wireBack", fn := fun _ => fun
  | [d1, d2, d3, d4] => { results := [.lit (.bool false)], args := [d1, d2, d3, d4] }
  | _ => none }
def WireBackWrongFalsely : Prop := wireBackRow.holds Tryd.pinned (OpenSpec.ofChange wireBackWrong)

/-- 'kilnlaw1.WireOneWay': WHATEVER THE INPUT: true; the input reads as it did. -/
def wireOneWaySpec : ChangeSpec := { name := "wireOneWay", fn := fun _ => fun
  | [d1, d2] => { results := [.lit (.bool true)], args := [d1, d2] }
  | _ => none }
def wireOneWayRow : OpenClaim := { program := "ythmnomdjpbfefaadoor", sum := "572b2c29d5d26a7353d37a89c9bc5390a1b0758d94b166ea50074c3be41646dd", func := "kiln/kilnlaw1.WireOneWay", spec := "wireOneWay", named := ["kiln/wire.half"], apart := false, laid := [("kiln/wire.half", laid_kiln_wire_half)] }
def WireOneWaySaid : Prop := wireOneWayRow.holds Tryd.pinned (OpenSpec.ofChange wireOneWaySpec)

/-- ITS FALSE NEIGHBOUR: 'it returns false'. Refute it at one input. -/
def wireOneWayWrong : ChangeSpec := { name := "wireOneWay", fn := fun _ => fun
  | [d1, d2] => { results := [.lit (.bool false)], args := [d1, d2] }
  | _ => none }
def WireOneWayWrongFalsely : Prop := wireOneWayRow.holds Tryd.pinned (OpenSpec.ofChange wireOneWayWrong)

/-- 'kilnlaw1.WireCuts': WHATEVER THE INPUT: true; the input reads as it did. -/
def wireCutsSpec : ChangeSpec := { name := "wireCuts", fn := fun _ => fun
  | [d1, d2, d3] => { results := [.lit (.bool true)], args := [d1, d2, d3] }
  | _ => none }
def wireCutsRow : OpenClaim := { program := "ythmnomdjpbfefaadoor", sum := "572b2c29d5d26a7353d37a89c9bc5390a1b0758d94b166ea50074c3be41646dd", func := "kiln/kilnlaw1.WireCuts", spec := "wireCuts", named := ["kiln/wire.half"], apart := false, laid := [("kiln/wire.half", laid_kiln_wire_half)] }
def WireCutsSaid : Prop := wireCutsRow.holds Tryd.pinned (OpenSpec.ofChange wireCutsSpec)

/-- ITS FALSE NEIGHBOUR: 'it returns false'. Refute it at one input. -/
def wireCutsWrong : ChangeSpec := { name := "wireCuts", fn := fun _ => fun
  | [d1, d2, d3] => { results := [.lit (.bool false)], args := [d1, d2, d3] }
  | _ => none }
def WireCutsWrongFalsely : Prop := wireCutsRow.holds Tryd.pinned (OpenSpec.ofChange wireCutsWrong)

/-- 'kilnlaw1.WireOwn': WHATEVER THE INPUT: true; the input reads as it did. -/
def wireOwnSpec : ChangeSpec := { name := "wireOwn", fn := fun _ => fun
  | [d1, d2, d3, d4] => { results := [.lit (.bool true)], args := [d1, d2, d3, d4] }
  | _ => none }
def wireOwnRow : OpenClaim := { program := "ythmnomdjpbfefaadoor", sum := "572b2c29d5d26a7353d37a89c9bc5390a1b0758d94b166ea50074c3be41646dd", func := "kiln/kilnlaw1.WireOwn", spec := "wireOwn", named := ["kiln/wire.half"], apart := false, laid := [("kiln/wire.half", laid_kiln_wire_half)] }
def WireOwnSaid : Prop := wireOwnRow.holds Tryd.pinned (OpenSpec.ofChange wireOwnSpec)

/-- ITS FALSE NEIGHBOUR: 'it returns false'. Refute it at one input. -/
def wireOwnWrong : ChangeSpec := { name := "wireOwn", fn := fun _ => fun
  | [d1, d2, d3, d4] => { results := [.lit (.bool false)], args := [d1, d2, d3, d4] }
  | _ => none }
def WireOwnWrongFalsely : Prop := wireOwnRow.holds Tryd.pinned (OpenSpec.ofChange wireOwnWrong)

/-- 'kilnlaw1.WireAgain': WHATEVER THE INPUT: true; the input reads as it did. -/
def wireAgainSpec : ChangeSpec := { name := "wireAgain", fn := fun _ => fun
  | [d] => { results := [.lit (.bool true)], args := [d] }
  | _ => none }
def wireAgainRow : OpenClaim := { program := "ythmnomdjpbfefaadoor", sum := "572b2c29d5d26a7353d37a89c9bc5390a1b0758d94b166ea50074c3be41646dd", func := "kiln/kilnlaw1.WireAgain", spec := "wireAgain", named := ["kiln/wire.half"], apart := false, laid := [("kiln/wire.half", laid_kiln_wire_half)] }
def WireAgainSaid : Prop := wireAgainRow.holds Tryd.pinned (OpenSpec.ofChange wireAgainSpec)

/-- ITS FALSE NEIGHBOUR: 'it returns false'. Refute it at one input. -/
def wireAgainWrong : ChangeSpec := { name := "wireAgain", fn := fun _ => fun
  | [d] => { results := [.lit (.bool false)], args := [d] }
  | _ => none }
def WireAgainWrongFalsely : Prop := wireAgainRow.holds Tryd.pinned (OpenSpec.ofChange wireAgainWrong)

/-- 'kilnlaw1.WireLent': WHATEVER THE INPUT: true; the input reads as it did. -/
def wireLentSpec : ChangeSpec := { name := "wireLent", fn := fun _ => fun
  | [d1, d2, d3, d4, d5, d6] => { results := [.lit (.bool true)], args := [d1, d2, d3, d4, d5, d6] }
  | _ => none }
def wireLentRow : OpenClaim := { program := "ythmnomdjpbfefaadoor", sum := "572b2c29d5d26a7353d37a89c9bc5390a1b0758d94b166ea50074c3be41646dd", func := "kiln/kilnlaw1.WireLent", spec := "wireLent", named := ["kiln/wire.half"], apart := false, laid := [("kiln/wire.half", laid_kiln_wire_half)] }
def WireLentSaid : Prop := wireLentRow.holds Tryd.pinned (OpenSpec.ofChange wireLentSpec)

/-- ITS FALSE NEIGHBOUR: 'it returns false'. Refute it at one input. -/
def wireLentWrong : ChangeSpec := { name := "wireLent", fn := fun _ => fun
  | [d1, d2, d3, d4, d5, d6] => { results := [.lit (.bool false)], args := [d1, d2, d3, d4, d5, d6] }
  | _ => none }
def WireLentWrongFalsely : Prop := wireLentRow.holds Tryd.pinned (OpenSpec.ofChange wireLentWrong)

/-- 'kilnlaw1.WireMany': WHATEVER THE INPUT: true; the input reads as it did. -/
def wireManySpec : ChangeSpec := { name := "wireMany", fn := fun _ => fun
  | [d1, d2, d3] => { results := [.lit (.bool true)], args := [d1, d2, d3] }
  | _ => none }
def wireManyRow : OpenClaim := { program := "ythmnomdjpbfefaadoor", sum := "572b2c29d5d26a7353d37a89c9bc5390a1b0758d94b166ea50074c3be41646dd", func := "kiln/kilnlaw1.WireMany", spec := "wireMany", named := ["kiln/wire.half"], apart := false, laid := [("kiln/wire.half", laid_kiln_wire_half)] }
def WireManySaid : Prop := wireManyRow.holds Tryd.pinned (OpenSpec.ofChange wireManySpec)

/-- ITS FALSE NEIGHBOUR: 'it returns false'. Refute it at one input. -/
def wireManyWrong : ChangeSpec := { name := "wireMany", fn := fun _ => fun
  | [d1, d2, d3] => { results := [.lit (.bool false)], args := [d1, d2, d3] }
  | _ => none }
def WireManyWrongFalsely : Prop := wireManyRow.holds Tryd.pinned (OpenSpec.ofChange wireManyWrong)

/- THE SECOND FORM. 'bulk': how many values and letters a reading holds, each counted each time it is reached (what is shared counts as often as it is met; a slice's spare places count too). A statement '..UptoSaid' is the law's where the arguments, and the package variables that the reading takes, are together of bulk at most 1048576: NARROWER than '..Said'. Prove '..Said' where nothing that the law and all that it calls make is longer than what came in: it says more and counts as full. Else prove '..UptoSaid'. A law counts once. -/
mutual
def uptoBulk {H : Type} : DataW H → Nat
  | .lit (.string bytes) => bytes.length + 1
  | .lit _ => 1
  | .nil => 1
  | .ptr d => uptoBulk d + 1
  | .slice elems spare => uptoBulkAll elems + uptoBulkAll spare + 1
  | .agg parts => uptoBulkAll parts + 1
  | .iface _ d => uptoBulk d + 1
  | .map entries => uptoBulkEntries entries + 1
  | .held _ => 1
def uptoBulkAll {H : Type} : List (DataW H) → Nat
  | [] => 0
  | d :: r => uptoBulk d + uptoBulkAll r
def uptoBulkEntries {H : Type} : List (Lit × DataW H) → Nat
  | [] => 0
  | x :: r => uptoBulkEntry x + uptoBulkEntries r
def uptoBulkEntry {H : Type} : Lit × DataW H → Nat
  | (.string bytes, d) => bytes.length + uptoBulk d + 1
  | (_, d) => uptoBulk d + 1
 end
def uptoSmall : (H : Type) → List (DataW H) → Bool := fun _ ds => decide (uptoBulkAll ds ≤ 1048576)
def OpenSpec.upto (s : _root_.Go.ChangeSpec) : _root_.Go.OpenSpec := { _root_.Go.OpenSpec.ofChange s with cond := some uptoSmall }

/-- 'kilnlaw1.WireSums', WHERE WHAT IT READS IS OF BULK AT MOST 1048576: true; the input reads as it did. -/
def wireSumsUptoRow : OpenClaim := { program := "ythmnomdjpbfefaadoor", sum := "572b2c29d5d26a7353d37a89c9bc5390a1b0758d94b166ea50074c3be41646dd", func := "kiln/kilnlaw1.WireSums", spec := "wireSums", named := ["kiln/wire.half"], apart := false, laid := [("kiln/wire.half", laid_kiln_wire_half)], narrowed := true }
def WireSumsUptoSaid : Prop := wireSumsUptoRow.holds Tryd.pinned (OpenSpec.upto wireSumsSpec)

/-- 'kilnlaw1.WireTells', WHERE WHAT IT READS IS OF BULK AT MOST 1048576: true; the input reads as it did. -/
def wireTellsUptoRow : OpenClaim := { program := "ythmnomdjpbfefaadoor", sum := "572b2c29d5d26a7353d37a89c9bc5390a1b0758d94b166ea50074c3be41646dd", func := "kiln/kilnlaw1.WireTells", spec := "wireTells", named := ["kiln/wire.half"], apart := false, laid := [("kiln/wire.half", laid_kiln_wire_half)], narrowed := true }
def WireTellsUptoSaid : Prop := wireTellsUptoRow.holds Tryd.pinned (OpenSpec.upto wireTellsSpec)

/-- 'kilnlaw1.WireUnlike', WHERE WHAT IT READS IS OF BULK AT MOST 1048576: true; the input reads as it did. -/
def wireUnlikeUptoRow : OpenClaim := { program := "ythmnomdjpbfefaadoor", sum := "572b2c29d5d26a7353d37a89c9bc5390a1b0758d94b166ea50074c3be41646dd", func := "kiln/kilnlaw1.WireUnlike", spec := "wireUnlike", named := ["kiln/wire.half"], apart := false, laid := [("kiln/wire.half", laid_kiln_wire_half)], narrowed := true }
def WireUnlikeUptoSaid : Prop := wireUnlikeUptoRow.holds Tryd.pinned (OpenSpec.upto wireUnlikeSpec)

/-- 'kilnlaw1.WireNumbers', WHERE WHAT IT READS IS OF BULK AT MOST 1048576: true; the input reads as it did. -/
def wireNumbersUptoRow : OpenClaim := { program := "ythmnomdjpbfefaadoor", sum := "572b2c29d5d26a7353d37a89c9bc5390a1b0758d94b166ea50074c3be41646dd", func := "kiln/kilnlaw1.WireNumbers", spec := "wireNumbers", named := ["kiln/wire.half"], apart := false, laid := [("kiln/wire.half", laid_kiln_wire_half)], narrowed := true }
def WireNumbersUptoSaid : Prop := wireNumbersUptoRow.holds Tryd.pinned (OpenSpec.upto wireNumbersSpec)

/-- 'kilnlaw1.WireStrings', WHERE WHAT IT READS IS OF BULK AT MOST 1048576: true; the input reads as it did. -/
def wireStringsUptoRow : OpenClaim := { program := "ythmnomdjpbfefaadoor", sum := "572b2c29d5d26a7353d37a89c9bc5390a1b0758d94b166ea50074c3be41646dd", func := "kiln/kilnlaw1.WireStrings", spec := "wireStrings", named := ["kiln/wire.half"], apart := false, laid := [("kiln/wire.half", laid_kiln_wire_half)], narrowed := true }
def WireStringsUptoSaid : Prop := wireStringsUptoRow.holds Tryd.pinned (OpenSpec.upto wireStringsSpec)

/-- 'kilnlaw1.WirePlays', WHERE WHAT IT READS IS OF BULK AT MOST 1048576: true; the input reads as it did. -/
def wirePlaysUptoRow : OpenClaim := { program := "ythmnomdjpbfefaadoor", sum := "572b2c29d5d26a7353d37a89c9bc5390a1b0758d94b166ea50074c3be41646dd", func := "kiln/kilnlaw1.WirePlays", spec := "wirePlays", named := ["kiln/wire.half"], apart := false, laid := [("kiln/wire.half", laid_kiln_wire_half)], narrowed := true }
def WirePlaysUptoSaid : Prop := wirePlaysUptoRow.holds Tryd.pinned (OpenSpec.upto wirePlaysSpec)

/-- 'kilnlaw1.WireBack', WHERE WHAT IT READS IS OF BULK AT MOST 1048576: true; the input reads as it did. -/
def wireBackUptoRow : OpenClaim := { program := "ythmnomdjpbfefaadoor", sum := "572b2c29d5d26a7353d37a89c9bc5390a1b0758d94b166ea50074c3be41646dd", func := "kiln/kilnlaw1.WireBack", spec := "wireBack", named := ["kiln/wire.half"], apart := false, laid := [("kiln/wire.half", laid_kiln_wire_half)], narrowed := true }
def WireBackUptoSaid : Prop := wireBackUptoRow.holds Tryd.pinned (OpenSpec.upto wireBackSpec)

/-- 'kilnlaw1.WireOneWay', WHERE WHAT IT READS IS OF BULK AT MOST 1048576: true; the input reads as it did. -/
def wireOneWayUptoRow : OpenClaim := { program := "ythmnomdjpbfefaadoor", sum := "572b2c29d5d26a7353d37a89c9bc5390a1b0758d94b166ea50074c3be41646dd", func := "kiln/kilnlaw1.WireOneWay", spec := "wireOneWay", named := ["kiln/wire.half"], apart := false, laid := [("kiln/wire.half", laid_kiln_wire_half)], narrowed := true }
def WireOneWayUptoSaid : Prop := wireOneWayUptoRow.holds Tryd.pinned (OpenSpec.upto wireOneWaySpec)

/-- 'kilnlaw1.WireCuts', WHERE WHAT IT READS IS OF BULK AT MOST 1048576: true; the input reads as it did. -/
def wireCutsUptoRow : OpenClaim := { program := "ythmnomdjpbfefaadoor", sum := "572b2c29d5d26a7353d37a89c9bc5390a1b0758d94b166ea50074c3be41646dd", func := "kiln/kilnlaw1.WireCuts", spec := "wireCuts", named := ["kiln/wire.half"], apart := false, laid := [("kiln/wire.half", laid_kiln_wire_half)], narrowed := true }
def WireCutsUptoSaid : Prop := wireCutsUptoRow.holds Tryd.pinned (OpenSpec.upto wireCutsSpec)

/-- 'kilnlaw1.WireOwn', WHERE WHAT IT READS IS OF BULK AT MOST 1048576: true; the input reads as it did. -/
def wireOwnUptoRow : OpenClaim := { program := "ythmnomdjpbfefaadoor", sum := "572b2c29d5d26a7353d37a89c9bc5390a1b0758d94b166ea50074c3be41646dd", func := "kiln/kilnlaw1.WireOwn", spec := "wireOwn", named := ["kiln/wire.half"], apart := false, laid := [("kiln/wire.half", laid_kiln_wire_half)], narrowed := true }
def WireOwnUptoSaid : Prop := wireOwnUptoRow.holds Tryd.pinned (OpenSpec.upto wireOwnSpec)

/-- 'kilnlaw1.WireAgain', WHERE WHAT IT READS IS OF BULK AT MOST 1048576: true; the input reads as it did. -/
def wireAgainUptoRow : OpenClaim := { program := "ythmnomdjpbfefaadoor", sum := "572b2c29d5d26a7353d37a89c9bc5390a1b0758d94b166ea50074c3be41646dd", func := "kiln/kilnlaw1.WireAgain", spec := "wireAgain", named := ["kiln/wire.half"], apart := false, laid := [("kiln/wire.half", laid_kiln_wire_half)], narrowed := true }
def WireAgainUptoSaid : Prop := wireAgainUptoRow.holds Tryd.pinned (OpenSpec.upto wireAgainSpec)

/-- 'kilnlaw1.WireLent', WHERE WHAT IT READS IS OF BULK AT MOST 1048576: true; the input reads as it did. -/
def wireLentUptoRow : OpenClaim := { program := "ythmnomdjpbfefaadoor", sum := "572b2c29d5d26a7353d37a89c9bc5390a1b0758d94b166ea50074c3be41646dd", func := "kiln/kilnlaw1.WireLent", spec := "wireLent", named := ["kiln/wire.half"], apart := false, laid := [("kiln/wire.half", laid_kiln_wire_half)], narrowed := true }
def WireLentUptoSaid : Prop := wireLentUptoRow.holds Tryd.pinned (OpenSpec.upto wireLentSpec)

/-- 'kilnlaw1.WireMany', WHERE WHAT IT READS IS OF BULK AT MOST 1048576: true; the input reads as it did. -/
def wireManyUptoRow : OpenClaim := { program := "ythmnomdjpbfefaadoor", sum := "572b2c29d5d26a7353d37a89c9bc5390a1b0758d94b166ea50074c3be41646dd", func := "kiln/kilnlaw1.WireMany", spec := "wireMany", named := ["kiln/wire.half"], apart := false, laid := [("kiln/wire.half", laid_kiln_wire_half)], narrowed := true }
def WireManyUptoSaid : Prop := wireManyUptoRow.holds Tryd.pinned (OpenSpec.upto wireManySpec)

end Rows
end Go.Proofs.YthmnomdjpbfefaaDoor
