/-
  NARROWER THAN 'FOR EVERY INPUT', by the rows' own cells (each row's printed sentence says how): WireTells: laid · WireBursts: laid · WireSums: laid · WireMany: laid · WireSorts: laid · WireOwn: laid · WireLent: laid · WireNumbers: laid · WireOrdered: laid · WireFrames: laid · WirePlays: laid · WireBack: laid · WireOneWay: laid · WireCuts: laid · WireAgain: laid.
  DERIVED. THE GIVEN ROWS OF THIS SEAT. 15 by the template 'for every input the law returns true; each argument reads behind the call as it read before'; 0 by the template 'total and deterministic' (their statements: YtkkfiffgldhahaaDoorTotals.lean).
  GIVEN WITH THE SEED: the statements are not yours to turn. If you find one false, say at which input.
  Laid BY PROGRAM, IN A SANDBOX (cutbox-rows.mjs): the forced cells as the released guide's own fill.sh prints them over the translation e1595b731fc846fb… (all of the seat's roots in one cut). By AI agents, Wed Nov 11 2026. No macro, syntax, notation, axiom, sorry.
-/
import Derived.Test.YtkkfiffgldhahaaDoorChecked
import GoSem.Claim
import GoSem.ClaimJoined
import GoSem.ClaimMapViews
import Derived.JoinedTies
import Derived.KernelRfl
namespace Go.Proofs.YtkkfiffgldhahaaDoor
/- THE CELL 'sum', in the pinned program and in every row, IS THE sha256 OF THE DUMP (.gsa) THAT YtkkfiffgldhahaaDoorProg.lean LOADS. Nothing in Lean hashes anything: it is a label: what it is worth is what the hold of that sum in a sandbox is worth. -/
noncomputable def Tryd.pinned : Pinned := { name := "ytkkfiffgldhahaadoor", sum := "e1595b731fc846fb2645b5dae0766e1adbb5bc9fc70f4b5102073d9aa46d58d5", checked := Tryd.checked }
namespace Rows
def none {H : Type} : Left H := { results := [], args := [] }

/- WHAT THE LISTED PACKAGE-LEVEL VARIABLES READ AS WHEN THE CALL BEGINS. Each datum BY PROGRAM (the guide's laid-datum.mjs) off the statement by which the dump's own 'gosem.cut.vars' lays the variable. In a bare row this is a premise. The card (YtkkfiffgldhahaaDoorCards.lean) ties it to the program's text. -/
def laid_strata_wire_table {H : Type} : DataW H := .agg [.lit (.int .u32 0), .lit (.int .u32 274646895), .lit (.int .u32 549293790), .lit (.int .u32 820201905), .lit (.int .u32 1098587580), .lit (.int .u32 1361435347), .lit (.int .u32 1640403810), .lit (.int .u32 1905808397), .lit (.int .u32 2197175160), .lit (.int .u32 2460548119), .lit (.int .u32 2722870694), .lit (.int .u32 2987750089), .lit (.int .u32 3280807620), .lit (.int .u32 3553878443), .lit (.int .u32 3811616794), .lit (.int .u32 4084100981)]

/-- 'stratalaw1.WireTells': WHATEVER THE INPUT: true; the input reads as it did. -/
def wireTellsSpec : ChangeSpec := { name := "wireTells", fn := fun _ => fun
  | [d1, d2, d3, d4, d5] => { results := [.lit (.bool true)], args := [d1, d2, d3, d4, d5] }
  | _ => none }
def wireTellsRow : OpenClaim := { program := "ytkkfiffgldhahaadoor", sum := "e1595b731fc846fb2645b5dae0766e1adbb5bc9fc70f4b5102073d9aa46d58d5", func := "strata/stratalaw1.WireTells", spec := "wireTells", named := ["strata/wire.table"], apart := false, laid := [("strata/wire.table", laid_strata_wire_table)] }
def WireTellsSaid : Prop := wireTellsRow.holds Tryd.pinned (OpenSpec.ofChange wireTellsSpec)

/-- ITS FALSE NEIGHBOUR: 'it returns false'. Refute it at one input. -/
def wireTellsWrong : ChangeSpec := { name := "wireTells", fn := fun _ => fun
  | [d1, d2, d3, d4, d5] => { results := [.lit (.bool false)], args := [d1, d2, d3, d4, d5] }
  | _ => none }
def WireTellsWrongFalsely : Prop := wireTellsRow.holds Tryd.pinned (OpenSpec.ofChange wireTellsWrong)

/-- 'stratalaw1.WireBursts': WHATEVER THE INPUT: true; the input reads as it did. -/
def wireBurstsSpec : ChangeSpec := { name := "wireBursts", fn := fun _ => fun
  | [d1, d2, d3, d4, d5] => { results := [.lit (.bool true)], args := [d1, d2, d3, d4, d5] }
  | _ => none }
def wireBurstsRow : OpenClaim := { program := "ytkkfiffgldhahaadoor", sum := "e1595b731fc846fb2645b5dae0766e1adbb5bc9fc70f4b5102073d9aa46d58d5", func := "strata/stratalaw1.WireBursts", spec := "wireBursts", named := ["strata/wire.table"], apart := false, laid := [("strata/wire.table", laid_strata_wire_table)] }
def WireBurstsSaid : Prop := wireBurstsRow.holds Tryd.pinned (OpenSpec.ofChange wireBurstsSpec)

/-- ITS FALSE NEIGHBOUR: 'it returns false'. Refute it at one input. -/
def wireBurstsWrong : ChangeSpec := { name := "wireBursts", fn := fun _ => fun
  | [d1, d2, d3, d4, d5] => { results := [.lit (.bool false)], args := [d1, d2, d3, d4, d5] }
  | _ => none }
def WireBurstsWrongFalsely : Prop := wireBurstsRow.holds Tryd.pinned (OpenSpec.ofChange wireBurstsWrong)

/-- 'stratalaw1.WireSums': WHATEVER THE INPUT: true; the input reads as it did. -/
def wireSumsSpec : ChangeSpec := { name := "wireSums", fn := fun _ => fun
  | [d1, d2, d3] => { results := [.lit (.bool true)], args := [d1, d2, d3] }
  | _ => none }
def wireSumsRow : OpenClaim := { program := "ytkkfiffgldhahaadoor", sum := "e1595b731fc846fb2645b5dae0766e1adbb5bc9fc70f4b5102073d9aa46d58d5", func := "strata/stratalaw1.WireSums", spec := "wireSums", named := ["strata/wire.table"], apart := false, laid := [("strata/wire.table", laid_strata_wire_table)] }
def WireSumsSaid : Prop := wireSumsRow.holds Tryd.pinned (OpenSpec.ofChange wireSumsSpec)

/-- ITS FALSE NEIGHBOUR: 'it returns false'. Refute it at one input. -/
def wireSumsWrong : ChangeSpec := { name := "wireSums", fn := fun _ => fun
  | [d1, d2, d3] => { results := [.lit (.bool false)], args := [d1, d2, d3] }
  | _ => none }
def WireSumsWrongFalsely : Prop := wireSumsRow.holds Tryd.pinned (OpenSpec.ofChange wireSumsWrong)

/-- 'stratalaw1.WireMany': WHATEVER THE INPUT: true; the input reads as it did. -/
def wireManySpec : ChangeSpec := { name := "wireMany", fn := fun _ => fun
  | [d1, d2, d3] => { results := [.lit (.bool true)], args := [d1, d2, d3] }
  | _ => none }
def wireManyRow : OpenClaim := { program := "ytkkfiffgldhahaadoor", sum := "e1595b731fc846fb2645b5dae0766e1adbb5bc9fc70f4b5102073d9aa46d58d5", func := "strata/stratalaw1.WireMany", spec := "wireMany", named := ["strata/wire.table"], apart := false, laid := [("strata/wire.table", laid_strata_wire_table)] }
def WireManySaid : Prop := wireManyRow.holds Tryd.pinned (OpenSpec.ofChange wireManySpec)

/-- ITS FALSE NEIGHBOUR: 'it returns false'. Refute it at one input. -/
def wireManyWrong : ChangeSpec := { name := "wireMany", fn := fun _ => fun
  | [d1, d2, d3] => { results := [.lit (.bool false)], args := [d1, d2, d3] }
  | _ => none }
def WireManyWrongFalsely : Prop := wireManyRow.holds Tryd.pinned (OpenSpec.ofChange wireManyWrong)

/-- 'stratalaw1.WireSorts': WHATEVER THE INPUT: true; the input reads as it did. -/
def wireSortsSpec : ChangeSpec := { name := "wireSorts", fn := fun _ => fun
  | [d1, d2, d3, d4, d5, d6] => { results := [.lit (.bool true)], args := [d1, d2, d3, d4, d5, d6] }
  | _ => none }
def wireSortsRow : OpenClaim := { program := "ytkkfiffgldhahaadoor", sum := "e1595b731fc846fb2645b5dae0766e1adbb5bc9fc70f4b5102073d9aa46d58d5", func := "strata/stratalaw1.WireSorts", spec := "wireSorts", named := ["strata/wire.table"], apart := false, laid := [("strata/wire.table", laid_strata_wire_table)] }
def WireSortsSaid : Prop := wireSortsRow.holds Tryd.pinned (OpenSpec.ofChange wireSortsSpec)

/-- ITS FALSE NEIGHBOUR: 'it returns false'. Refute it at one input. -/
def wireSortsWrong : ChangeSpec := { name := "wireSorts", fn := fun _ => fun
  | [d1, d2, d3, d4, d5, d6] => { results := [.lit (.bool false)], args := [d1, d2, d3, d4, d5, d6] }
  | _ => none }
def WireSortsWrongFalsely : Prop := wireSortsRow.holds Tryd.pinned (OpenSpec.ofChange wireSortsWrong)

/-- 'stratalaw1.WireOwn': WHATEVER THE INPUT: true; the input reads as it did. -/
def wireOwnSpec : ChangeSpec := { name := "wireOwn", fn := fun _ => fun
  | [d1, d2, d3, d4] => { results := [.lit (.bool true)], args := [d1, d2, d3, d4] }
  | _ => none }
def wireOwnRow : OpenClaim := { program := "ytkkfiffgldhahaadoor", sum := "e1595b731fc846fb2645b5dae0766e1adbb5bc9fc70f4b5102073d9aa46d58d5", func := "strata/stratalaw1.WireOwn", spec := "wireOwn", named := ["strata/wire.table"], apart := false, laid := [("strata/wire.table", laid_strata_wire_table)] }
def WireOwnSaid : Prop := wireOwnRow.holds Tryd.pinned (OpenSpec.ofChange wireOwnSpec)

/-- ITS FALSE NEIGHBOUR: 'it returns false'. Refute it at one input. -/
def wireOwnWrong : ChangeSpec := { name := "wireOwn", fn := fun _ => fun
  | [d1, d2, d3, d4] => { results := [.lit (.bool false)], args := [d1, d2, d3, d4] }
  | _ => none }
def WireOwnWrongFalsely : Prop := wireOwnRow.holds Tryd.pinned (OpenSpec.ofChange wireOwnWrong)

/-- 'stratalaw1.WireLent': WHATEVER THE INPUT: true; the input reads as it did. -/
def wireLentSpec : ChangeSpec := { name := "wireLent", fn := fun _ => fun
  | [d1, d2, d3, d4, d5, d6] => { results := [.lit (.bool true)], args := [d1, d2, d3, d4, d5, d6] }
  | _ => none }
def wireLentRow : OpenClaim := { program := "ytkkfiffgldhahaadoor", sum := "e1595b731fc846fb2645b5dae0766e1adbb5bc9fc70f4b5102073d9aa46d58d5", func := "strata/stratalaw1.WireLent", spec := "wireLent", named := ["strata/wire.table"], apart := false, laid := [("strata/wire.table", laid_strata_wire_table)] }
def WireLentSaid : Prop := wireLentRow.holds Tryd.pinned (OpenSpec.ofChange wireLentSpec)

/-- ITS FALSE NEIGHBOUR: 'it returns false'. Refute it at one input. -/
def wireLentWrong : ChangeSpec := { name := "wireLent", fn := fun _ => fun
  | [d1, d2, d3, d4, d5, d6] => { results := [.lit (.bool false)], args := [d1, d2, d3, d4, d5, d6] }
  | _ => none }
def WireLentWrongFalsely : Prop := wireLentRow.holds Tryd.pinned (OpenSpec.ofChange wireLentWrong)

/-- 'stratalaw1.WireNumbers': WHATEVER THE INPUT: true; the input reads as it did. -/
def wireNumbersSpec : ChangeSpec := { name := "wireNumbers", fn := fun _ => fun
  | [d] => { results := [.lit (.bool true)], args := [d] }
  | _ => none }
def wireNumbersRow : OpenClaim := { program := "ytkkfiffgldhahaadoor", sum := "e1595b731fc846fb2645b5dae0766e1adbb5bc9fc70f4b5102073d9aa46d58d5", func := "strata/stratalaw1.WireNumbers", spec := "wireNumbers", named := ["strata/wire.table"], apart := false, laid := [("strata/wire.table", laid_strata_wire_table)] }
def WireNumbersSaid : Prop := wireNumbersRow.holds Tryd.pinned (OpenSpec.ofChange wireNumbersSpec)

/-- ITS FALSE NEIGHBOUR: 'it returns false'. Refute it at one input. -/
def wireNumbersWrong : ChangeSpec := { name := "wireNumbers", fn := fun _ => fun
  | [d] => { results := [.lit (.bool false)], args := [d] }
  | _ => none }
def WireNumbersWrongFalsely : Prop := wireNumbersRow.holds Tryd.pinned (OpenSpec.ofChange wireNumbersWrong)

/-- 'stratalaw1.WireOrdered': WHATEVER THE INPUT: true; the input reads as it did. -/
def wireOrderedSpec : ChangeSpec := { name := "wireOrdered", fn := fun _ => fun
  | [d] => { results := [.lit (.bool true)], args := [d] }
  | _ => none }
def wireOrderedRow : OpenClaim := { program := "ytkkfiffgldhahaadoor", sum := "e1595b731fc846fb2645b5dae0766e1adbb5bc9fc70f4b5102073d9aa46d58d5", func := "strata/stratalaw1.WireOrdered", spec := "wireOrdered", named := ["strata/wire.table"], apart := false, laid := [("strata/wire.table", laid_strata_wire_table)] }
def WireOrderedSaid : Prop := wireOrderedRow.holds Tryd.pinned (OpenSpec.ofChange wireOrderedSpec)

/-- ITS FALSE NEIGHBOUR: 'it returns false'. Refute it at one input. -/
def wireOrderedWrong : ChangeSpec := { name := "wireOrdered", fn := fun _ => fun
  | [d] => { results := [.lit (.bool false)], args := [d] }
  | _ => none }
def WireOrderedWrongFalsely : Prop := wireOrderedRow.holds Tryd.pinned (OpenSpec.ofChange wireOrderedWrong)

/-- 'stratalaw1.WireFrames': WHATEVER THE INPUT: true; the input reads as it did. -/
def wireFramesSpec : ChangeSpec := { name := "wireFrames", fn := fun _ => fun
  | [d] => { results := [.lit (.bool true)], args := [d] }
  | _ => none }
def wireFramesRow : OpenClaim := { program := "ytkkfiffgldhahaadoor", sum := "e1595b731fc846fb2645b5dae0766e1adbb5bc9fc70f4b5102073d9aa46d58d5", func := "strata/stratalaw1.WireFrames", spec := "wireFrames", named := ["strata/wire.table"], apart := false, laid := [("strata/wire.table", laid_strata_wire_table)] }
def WireFramesSaid : Prop := wireFramesRow.holds Tryd.pinned (OpenSpec.ofChange wireFramesSpec)

/-- ITS FALSE NEIGHBOUR: 'it returns false'. Refute it at one input. -/
def wireFramesWrong : ChangeSpec := { name := "wireFrames", fn := fun _ => fun
  | [d] => { results := [.lit (.bool false)], args := [d] }
  | _ => none }
def WireFramesWrongFalsely : Prop := wireFramesRow.holds Tryd.pinned (OpenSpec.ofChange wireFramesWrong)

/-- 'stratalaw1.WirePlays': WHATEVER THE INPUT: true; the input reads as it did. -/
def wirePlaysSpec : ChangeSpec := { name := "wirePlays", fn := fun _ => fun
  | [d] => { results := [.lit (.bool true)], args := [d] }
  | _ => none }
def wirePlaysRow : OpenClaim := { program := "ytkkfiffgldhahaadoor", sum := "e1595b731fc846fb2645b5dae0766e1adbb5bc9fc70f4b5102073d9aa46d58d5", func := "strata/stratalaw1.WirePlays", spec := "wirePlays", named := ["strata/wire.table"], apart := false, laid := [("strata/wire.table", laid_strata_wire_table)] }
def WirePlaysSaid : Prop := wirePlaysRow.holds Tryd.pinned (OpenSpec.ofChange wirePlaysSpec)

/-- ITS FALSE NEIGHBOUR: 'it returns false'. Refute it at one input. -/
def wirePlaysWrong : ChangeSpec := { name := "wirePlays", fn := fun _ => fun
  | [d] => { results := [.lit (.bool false)], args := [d] }
  | _ => none }
def WirePlaysWrongFalsely : Prop := wirePlaysRow.holds Tryd.pinned (OpenSpec.ofChange wirePlaysWrong)

/-- 'stratalaw1.WireBack': WHATEVER THE INPUT: true; the input reads as it did. -/
def wireBackSpec : ChangeSpec := { name := "wireBack", fn := fun _ => fun
  | [d1, d2, d3, d4] => { results := [.lit (.bool true)], args := [d1, d2, d3, d4] }
  | _ => none }
def wireBackRow : OpenClaim := { program := "ytkkfiffgldhahaadoor", sum := "e1595b731fc846fb2645b5dae0766e1adbb5bc9fc70f4b5102073d9aa46d58d5", func := "strata/stratalaw1.WireBack", spec := "wireBack", named := ["strata/wire.table"], apart := false, laid := [("strata/wire.table", laid_strata_wire_table)] }
def WireBackSaid : Prop := wireBackRow.holds Tryd.pinned (OpenSpec.ofChange wireBackSpec)

/-- ITS FALSE NEIGHBOUR: 'it returns false'. Refute it at one input. -/
def wireBackWrong : ChangeSpec := { name := "wireBack", fn := fun _ => fun
  | [d1, d2, d3, d4] => { results := [.lit (.bool false)], args := [d1, d2, d3, d4] }
  | _ => none }
def WireBackWrongFalsely : Prop := wireBackRow.holds Tryd.pinned (OpenSpec.ofChange wireBackWrong)

/-- 'stratalaw1.WireOneWay': WHATEVER THE INPUT: true; the input reads as it did. -/
def wireOneWaySpec : ChangeSpec := { name := "wireOneWay", fn := fun _ => fun
  | [d1, d2] => { results := [.lit (.bool true)], args := [d1, d2] }
  | _ => none }
def wireOneWayRow : OpenClaim := { program := "ytkkfiffgldhahaadoor", sum := "e1595b731fc846fb2645b5dae0766e1adbb5bc9fc70f4b5102073d9aa46d58d5", func := "strata/stratalaw1.WireOneWay", spec := "wireOneWay", named := ["strata/wire.table"], apart := false, laid := [("strata/wire.table", laid_strata_wire_table)] }
def WireOneWaySaid : Prop := wireOneWayRow.holds Tryd.pinned (OpenSpec.ofChange wireOneWaySpec)

/-- ITS FALSE NEIGHBOUR: 'it returns false'. Refute it at one input. -/
def wireOneWayWrong : ChangeSpec := { name := "wireOneWay", fn := fun _ => fun
  | [d1, d2] => { results := [.lit (.bool false)], args := [d1, d2] }
  | _ => none }
def WireOneWayWrongFalsely : Prop := wireOneWayRow.holds Tryd.pinned (OpenSpec.ofChange wireOneWayWrong)

/-- 'stratalaw1.WireCuts': WHATEVER THE INPUT: true; the input reads as it did. -/
def wireCutsSpec : ChangeSpec := { name := "wireCuts", fn := fun _ => fun
  | [d1, d2, d3] => { results := [.lit (.bool true)], args := [d1, d2, d3] }
  | _ => none }
def wireCutsRow : OpenClaim := { program := "ytkkfiffgldhahaadoor", sum := "e1595b731fc846fb2645b5dae0766e1adbb5bc9fc70f4b5102073d9aa46d58d5", func := "strata/stratalaw1.WireCuts", spec := "wireCuts", named := ["strata/wire.table"], apart := false, laid := [("strata/wire.table", laid_strata_wire_table)] }
def WireCutsSaid : Prop := wireCutsRow.holds Tryd.pinned (OpenSpec.ofChange wireCutsSpec)

/-- ITS FALSE NEIGHBOUR: 'it returns false'. Refute it at one input. -/
def wireCutsWrong : ChangeSpec := { name := "wireCuts", fn := fun _ => fun
  | [d1, d2, d3] => { results := [.lit (.bool false)], args := [d1, d2, d3] }
  | _ => none }
def WireCutsWrongFalsely : Prop := wireCutsRow.holds Tryd.pinned (OpenSpec.ofChange wireCutsWrong)

/-- 'stratalaw1.WireAgain': WHATEVER THE INPUT: true; the input reads as it did. -/
def wireAgainSpec : ChangeSpec := { name := "wireAgain", fn := fun _ => fun
  | [d] => { results := [.lit (.bool true)], args := [d] }
  | _ => none }
def wireAgainRow : OpenClaim := { program := "ytkkfiffgldhahaadoor", sum := "e1595b731fc846fb2645b5dae0766e1adbb5bc9fc70f4b5102073d9aa46d58d5", func := "strata/stratalaw1.WireAgain", spec := "wireAgain", named := ["strata/wire.table"], apart := false, laid := [("strata/wire.table", laid_strata_wire_table)] }
def WireAgainSaid : Prop := wireAgainRow.holds Tryd.pinned (OpenSpec.ofChange wireAgainSpec)

/-- ITS FALSE NEIGHBOUR: 'it returns false'. Refute it at one input. -/
def wireAgainWrong : ChangeSpec := { name := "wireAgain", fn := fun _ => fun
  | [d] => { results := [.lit (.bool false)], args := [d] }
  | _ => none }
def WireAgainWrongFalsely : Prop := wireAgainRow.holds Tryd.pinned (OpenSpec.ofChange wireAgainWrong)

/- THE SECOND FORM. 'bulk': how many values and letters a reading holds, each counted each time it is reached (what is shared counts as often as it is met; a slice's spare places count too). A statement '..UptoSaid' is the law's where the arguments, and the package variables that the reading takes, are together of bulk at most 1048576: NARROWER than '..Said'. Prove '..Said' where nothing that the law and all that it calls make is longer than what came in: it says more and counts as full. Else prove '..UptoSaid'. A law counts once. -/
mutual
def uptoBulk {H : Type} : DataW H → Nat
  | .lit (.string bytes) => bytes.length + 1
  | .lit _ => 1
  | .nil => 1
  | .ptr d => uptoBulk d + 1
  | .slice elems spare => uptoBulkAll elems + uptoBulkAll spare + 1
  | .agg parts => uptoBulkAll parts + 1
  | .iface _ d => uptoBulk d + 1
  | .map entries => uptoBulkEntries entries + 1
  | .held _ => 1
def uptoBulkAll {H : Type} : List (DataW H) → Nat
  | [] => 0
  | d :: r => uptoBulk d + uptoBulkAll r
def uptoBulkEntries {H : Type} : List (Lit × DataW H) → Nat
  | [] => 0
  | x :: r => uptoBulkEntry x + uptoBulkEntries r
def uptoBulkEntry {H : Type} : Lit × DataW H → Nat
  | (.string bytes, d) => bytes.length + uptoBulk d + 1
  | (_, d) => uptoBulk d + 1
 end
def uptoSmall : (H : Type) → List (DataW H) → Bool := fun _ ds => decide (uptoBulkAll ds ≤ 1048576)
def OpenSpec.upto (s : _root_.Go.ChangeSpec) : _root_.Go.OpenSpec := { _root_.Go.OpenSpec.ofChange s with cond := some uptoSmall }

/-- 'stratalaw1.WireTells', WHERE WHAT IT READS IS OF BULK AT MOST 1048576: true; the input reads as it did. -/
def wireTellsUptoRow : OpenClaim := { program := "ytkkfiffgldhahaadoor", sum := "e1595b731fc846fb2645b5dae0766e1adbb5bc9fc70f4b5102073d9aa46d58d5", func := "strata/stratalaw1.WireTells", spec := "wireTells", named := ["strata/wire.table"], apart := false, laid := [("strata/wire.table", laid_strata_wire_table)], narrowed := true }
def WireTellsUptoSaid : Prop := wireTellsUptoRow.holds Tryd.pinned (OpenSpec.upto wireTellsSpec)

/-- 'stratalaw1.WireBursts', WHERE WHAT IT READS IS OF BULK AT MOST 1048576: true; the input reads as it did. -/
def wireBurstsUptoRow : OpenClaim := { program := "ytkkfiffgldhahaadoor", sum := "e1595b731fc846fb2645b5dae0766e1adbb5bc9fc70f4b5102073d9aa46d58d5", func := "strata/stratalaw1.WireBursts", spec := "wireBursts", named := ["strata/wire.table"], apart := false, laid := [("strata/wire.table", laid_strata_wire_table)], narrowed := true }
def WireBurstsUptoSaid : Prop := wireBurstsUptoRow.holds Tryd.pinned (OpenSpec.upto wireBurstsSpec)

/-- 'stratalaw1.WireSums', WHERE WHAT IT READS IS OF BULK AT MOST 1048576: true; the input reads as it did. -/
def wireSumsUptoRow : OpenClaim := { program := "ytkkfiffgldhahaadoor", sum := "e1595b731fc846fb2645b5dae0766e1adbb5bc9fc70f4b5102073d9aa46d58d5", func := "strata/stratalaw1.WireSums", spec := "wireSums", named := ["strata/wire.table"], apart := false, laid := [("strata/wire.table", laid_strata_wire_table)], narrowed := true }
def WireSumsUptoSaid : Prop := wireSumsUptoRow.holds Tryd.pinned (OpenSpec.upto wireSumsSpec)

/-- 'stratalaw1.WireMany', WHERE WHAT IT READS IS OF BULK AT MOST 1048576: true; the input reads as it did. -/
def wireManyUptoRow : OpenClaim := { program := "ytkkfiffgldhahaadoor", sum := "e1595b731fc846fb2645b5dae0766e1adbb5bc9fc70f4b5102073d9aa46d58d5", func := "strata/stratalaw1.WireMany", spec := "wireMany", named := ["strata/wire.table"], apart := false, laid := [("strata/wire.table", laid_strata_wire_table)], narrowed := true }
def WireManyUptoSaid : Prop := wireManyUptoRow.holds Tryd.pinned (OpenSpec.upto wireManySpec)

/-- 'stratalaw1.WireSorts', WHERE WHAT IT READS IS OF BULK AT MOST 1048576: true; the input reads as it did. -/
def wireSortsUptoRow : OpenClaim := { program := "ytkkfiffgldhahaadoor", sum := "e1595b731fc846fb2645b5dae0766e1adbb5bc9fc70f4b5102073d9aa46d58d5", func := "strata/stratalaw1.WireSorts", spec := "wireSorts", named := ["strata/wire.table"], apart := false, laid := [("strata/wire.table", laid_strata_wire_table)], narrowed := true }
def WireSortsUptoSaid : Prop := wireSortsUptoRow.holds Tryd.pinned (OpenSpec.upto wireSortsSpec)

/-- 'stratalaw1.WireOwn', WHERE WHAT IT READS IS OF BULK AT MOST 1048576: true; the input reads as it did. -/
def wireOwnUptoRow : OpenClaim := { program := "ytkkfiffgldhahaadoor", sum := "e1595b731fc846fb2645b5dae0766e1adbb5bc9fc70f4b5102073d9aa46d58d5", func := "strata/stratalaw1.WireOwn", spec := "wireOwn", named := ["strata/wire.table"], apart := false, laid := [("strata/wire.table", laid_strata_wire_table)], narrowed := true }
def WireOwnUptoSaid : Prop := wireOwnUptoRow.holds Tryd.pinned (OpenSpec.upto wireOwnSpec)

/-- 'stratalaw1.WireLent', WHERE WHAT IT READS IS OF BULK AT MOST 1048576: true; the input reads as it did. -/
def wireLentUptoRow : OpenClaim := { program := "ytkkfiffgldhahaadoor", sum := "e1595b731fc846fb2645b5dae0766e1adbb5bc9fc70f4b5102073d9aa46d58d5", func := "strata/stratalaw1.WireLent", spec := "wireLent", named := ["strata/wire.table"], apart := false, laid := [("strata/wire.table", laid_strata_wire_table)], narrowed := true }
def WireLentUptoSaid : Prop := wireLentUptoRow.holds Tryd.pinned (OpenSpec.upto wireLentSpec)

/-- 'stratalaw1.WireNumbers', WHERE WHAT IT READS IS OF BULK AT MOST 1048576: true; the input reads as it did. -/
def wireNumbersUptoRow : OpenClaim := { program := "ytkkfiffgldhahaadoor", sum := "e1595b731fc846fb2645b5dae0766e1adbb5bc9fc70f4b5102073d9aa46d58d5", func := "strata/stratalaw1.WireNumbers", spec := "wireNumbers", named := ["strata/wire.table"], apart := false, laid := [("strata/wire.table", laid_strata_wire_table)], narrowed := true }
def WireNumbersUptoSaid : Prop := wireNumbersUptoRow.holds Tryd.pinned (OpenSpec.upto wireNumbersSpec)

/-- 'stratalaw1.WireOrdered', WHERE WHAT IT READS IS OF BULK AT MOST 1048576: true; the input reads as it did. -/
def wireOrderedUptoRow : OpenClaim := { program := "ytkkfiffgldhahaadoor", sum := "e1595b731fc846fb2645b5dae0766e1adbb5bc9fc70f4b5102073d9aa46d58d5", func := "strata/stratalaw1.WireOrdered", spec := "wireOrdered", named := ["strata/wire.table"], apart := false, laid := [("strata/wire.table", laid_strata_wire_table)], narrowed := true }
def WireOrderedUptoSaid : Prop := wireOrderedUptoRow.holds Tryd.pinned (OpenSpec.upto wireOrderedSpec)

/-- 'stratalaw1.WireFrames', WHERE WHAT IT READS IS OF BULK AT MOST 1048576: true; the input reads as it did. -/
def wireFramesUptoRow : OpenClaim := { program := "ytkkfiffgldhahaadoor", sum := "e1595b731fc846fb2645b5dae0766e1adbb5bc9fc70f4b5102073d9aa46d58d5", func := "strata/stratalaw1.WireFrames", spec := "wireFrames", named := ["strata/wire.table"], apart := false, laid := [("strata/wire.table", laid_strata_wire_table)], narrowed := true }
def WireFramesUptoSaid : Prop := wireFramesUptoRow.holds Tryd.pinned (OpenSpec.upto wireFramesSpec)

/-- 'stratalaw1.WirePlays', WHERE WHAT IT READS IS OF BULK AT MOST 1048576: true; the input reads as it did. -/
def wirePlaysUptoRow : OpenClaim := { program := "ytkkfiffgldhahaadoor", sum := "e1595b731fc846fb2645b5dae0766e1adbb5bc9fc70f4b5102073d9aa46d58d5", func := "strata/stratalaw1.WirePlays", spec := "wirePlays", named := ["strata/wire.table"], apart := false, laid := [("strata/wire.table", laid_strata_wire_table)], narrowed := true }
def WirePlaysUptoSaid : Prop := wirePlaysUptoRow.holds Tryd.pinned (OpenSpec.upto wirePlaysSpec)

/-- 'stratalaw1.WireBack', WHERE WHAT IT READS IS OF BULK AT MOST 1048576: true; the input reads as it did. -/
def wireBackUptoRow : OpenClaim := { program := "ytkkfiffgldhahaadoor", sum := "e1595b731fc846fb2645b5dae0766e1adbb5bc9fc70f4b5102073d9aa46d58d5", func := "strata/stratalaw1.WireBack", spec := "wireBack", named := ["strata/wire.table"], apart := false, laid := [("strata/wire.table", laid_strata_wire_table)], narrowed := true }
def WireBackUptoSaid : Prop := wireBackUptoRow.holds Tryd.pinned (OpenSpec.upto wireBackSpec)

/-- 'stratalaw1.WireOneWay', WHERE WHAT IT READS IS OF BULK AT MOST 1048576: true; the input reads as it did. -/
def wireOneWayUptoRow : OpenClaim := { program := "ytkkfiffgldhahaadoor", sum := "e1595b731fc846fb2645b5dae0766e1adbb5bc9fc70f4b5102073d9aa46d58d5", func := "strata/stratalaw1.WireOneWay", spec := "wireOneWay", named := ["strata/wire.table"], apart := false, laid := [("strata/wire.table", laid_strata_wire_table)], narrowed := true }
def WireOneWayUptoSaid : Prop := wireOneWayUptoRow.holds Tryd.pinned (OpenSpec.upto wireOneWaySpec)

/-- 'stratalaw1.WireCuts', WHERE WHAT IT READS IS OF BULK AT MOST 1048576: true; the input reads as it did. -/
def wireCutsUptoRow : OpenClaim := { program := "ytkkfiffgldhahaadoor", sum := "e1595b731fc846fb2645b5dae0766e1adbb5bc9fc70f4b5102073d9aa46d58d5", func := "strata/stratalaw1.WireCuts", spec := "wireCuts", named := ["strata/wire.table"], apart := false, laid := [("strata/wire.table", laid_strata_wire_table)], narrowed := true }
def WireCutsUptoSaid : Prop := wireCutsUptoRow.holds Tryd.pinned (OpenSpec.upto wireCutsSpec)

/-- 'stratalaw1.WireAgain', WHERE WHAT IT READS IS OF BULK AT MOST 1048576: true; the input reads as it did. -/
def wireAgainUptoRow : OpenClaim := { program := "ytkkfiffgldhahaadoor", sum := "e1595b731fc846fb2645b5dae0766e1adbb5bc9fc70f4b5102073d9aa46d58d5", func := "strata/stratalaw1.WireAgain", spec := "wireAgain", named := ["strata/wire.table"], apart := false, laid := [("strata/wire.table", laid_strata_wire_table)], narrowed := true }
def WireAgainUptoSaid : Prop := wireAgainUptoRow.holds Tryd.pinned (OpenSpec.upto wireAgainSpec)

end Rows
end Go.Proofs.YtkkfiffgldhahaaDoor
