/-
  NARROWER THAN 'FOR EVERY INPUT', by the rows' own cells (each row's printed sentence says how): RunAgain: laid · RunMany: laid · RunSeeks: laid · RunWrites: laid · RunOne: laid · RunLent: laid · RunTells: laid · RunBursts: laid · RunOwn: laid · RunBack: laid · RunOpens: laid · RunPlays: laid.
  DERIVED. THE GIVEN ROWS OF THIS SEAT. 12 by the template 'for every input the law returns true; each argument reads behind the call as it read before'; 0 by the template 'total and deterministic' (their statements: YtfdbcfaeiglbeaaGreatDoorTotals.lean).
  GIVEN WITH THE SEED: the statements are not yours to turn. If you find one false, say at which input.
  Laid BY PROGRAM, IN A SANDBOX (cutbox-rows.mjs): the forced cells as the released guide's own fill.sh prints them over the translation 6d4f2cf54bfb6d23… (all of the seat's roots in one cut). By AI agents, Wed Nov 11 2026. No macro, syntax, notation, axiom, sorry.
-/
import Derived.Test.YtfdbcfaeiglbeaaGreatDoorChecked
import GoSem.Claim
import GoSem.ClaimJoined
import GoSem.ClaimMapViews
import Derived.JoinedTies
import Derived.KernelRfl
namespace Go.Proofs.YtfdbcfaeiglbeaaGreatDoor
/- THE CELL 'sum', in the pinned program and in every row, IS THE sha256 OF THE DUMP (.gsa) THAT YtfdbcfaeiglbeaaGreatDoorProg.lean LOADS. Nothing in Lean hashes anything: it is a label: what it is worth is what the hold of that sum in a sandbox is worth. -/
noncomputable def Tryz.pinned : Pinned := { name := "ytfdbcfaeiglbeaagreatdoor", sum := "6d4f2cf54bfb6d2331744b69b169091afc2e5a6b52c77411eeeef5ee3c7c3a21", checked := Tryz.checked }
namespace Rows
def none {H : Type} : Left H := { results := [], args := [] }

/- WHAT THE LISTED PACKAGE-LEVEL VARIABLES READ AS WHEN THE CALL BEGINS. Each datum BY PROGRAM (the guide's laid-datum.mjs) off the statement by which the dump's own 'gosem.cut.vars' lays the variable. In a bare row this is a premise. The card (YtfdbcfaeiglbeaaGreatDoorCards.lean) ties it to the program's text. -/
def laid_strata_wire_table {H : Type} : DataW H := .agg [.lit (.int .u32 0), .lit (.int .u32 274646895), .lit (.int .u32 549293790), .lit (.int .u32 820201905), .lit (.int .u32 1098587580), .lit (.int .u32 1361435347), .lit (.int .u32 1640403810), .lit (.int .u32 1905808397), .lit (.int .u32 2197175160), .lit (.int .u32 2460548119), .lit (.int .u32 2722870694), .lit (.int .u32 2987750089), .lit (.int .u32 3280807620), .lit (.int .u32 3553878443), .lit (.int .u32 3811616794), .lit (.int .u32 4084100981)]

/-- 'stratalaw7.RunAgain': WHATEVER THE INPUT: true; the input reads as it did. -/
def runAgainSpec : ChangeSpec := { name := "runAgain", fn := fun _ => fun
  | [d1, d2, d3, d4, d5] => { results := [.lit (.bool true)], args := [d1, d2, d3, d4, d5] }
  | _ => none }
def runAgainRow : OpenClaim := { program := "ytfdbcfaeiglbeaagreatdoor", sum := "6d4f2cf54bfb6d2331744b69b169091afc2e5a6b52c77411eeeef5ee3c7c3a21", func := "strata/stratalaw7.RunAgain", spec := "runAgain", inPlace := ["internal/bytealg.Compare"], unfollowed := true, recurses := true, named := ["strata/wire.table"], apart := false, laid := [("strata/wire.table", laid_strata_wire_table)] }
def RunAgainSaid : Prop := runAgainRow.holds Tryz.pinned (OpenSpec.ofChange runAgainSpec)

/-- ITS FALSE NEIGHBOUR: 'it returns false'. Refute it at one input. -/
def runAgainWrong : ChangeSpec := { name := "runAgain", fn := fun _ => fun
  | [d1, d2, d3, d4, d5] => { results := [.lit (.bool false)], args := [d1, d2, d3, d4, d5] }
  | _ => none }
def RunAgainWrongFalsely : Prop := runAgainRow.holds Tryz.pinned (OpenSpec.ofChange runAgainWrong)

/-- 'stratalaw7.RunMany': WHATEVER THE INPUT: true; the input reads as it did. -/
def runManySpec : ChangeSpec := { name := "runMany", fn := fun _ => fun
  | [d1, d2, d3, d4] => { results := [.lit (.bool true)], args := [d1, d2, d3, d4] }
  | _ => none }
def runManyRow : OpenClaim := { program := "ytfdbcfaeiglbeaagreatdoor", sum := "6d4f2cf54bfb6d2331744b69b169091afc2e5a6b52c77411eeeef5ee3c7c3a21", func := "strata/stratalaw7.RunMany", spec := "runMany", inPlace := ["internal/bytealg.Compare"], unfollowed := true, recurses := true, named := ["strata/wire.table"], apart := false, laid := [("strata/wire.table", laid_strata_wire_table)] }
def RunManySaid : Prop := runManyRow.holds Tryz.pinned (OpenSpec.ofChange runManySpec)

/-- ITS FALSE NEIGHBOUR: 'it returns false'. Refute it at one input. -/
def runManyWrong : ChangeSpec := { name := "runMany", fn := fun _ => fun
  | [d1, d2, d3, d4] => { results := [.lit (.bool false)], args := [d1, d2, d3, d4] }
  | _ => none }
def RunManyWrongFalsely : Prop := runManyRow.holds Tryz.pinned (OpenSpec.ofChange runManyWrong)

/-- 'stratalaw7.RunSeeks': WHATEVER THE INPUT: true; the input reads as it did. -/
def runSeeksSpec : ChangeSpec := { name := "runSeeks", fn := fun _ => fun
  | [d1, d2, d3] => { results := [.lit (.bool true)], args := [d1, d2, d3] }
  | _ => none }
def runSeeksRow : OpenClaim := { program := "ytfdbcfaeiglbeaagreatdoor", sum := "6d4f2cf54bfb6d2331744b69b169091afc2e5a6b52c77411eeeef5ee3c7c3a21", func := "strata/stratalaw7.RunSeeks", spec := "runSeeks", inPlace := ["internal/bytealg.Compare"], unfollowed := true, recurses := true, named := ["strata/wire.table"], apart := false, laid := [("strata/wire.table", laid_strata_wire_table)] }
def RunSeeksSaid : Prop := runSeeksRow.holds Tryz.pinned (OpenSpec.ofChange runSeeksSpec)

/-- ITS FALSE NEIGHBOUR: 'it returns false'. Refute it at one input. -/
def runSeeksWrong : ChangeSpec := { name := "runSeeks", fn := fun _ => fun
  | [d1, d2, d3] => { results := [.lit (.bool false)], args := [d1, d2, d3] }
  | _ => none }
def RunSeeksWrongFalsely : Prop := runSeeksRow.holds Tryz.pinned (OpenSpec.ofChange runSeeksWrong)

/-- 'stratalaw7.RunWrites': WHATEVER THE INPUT: true; the input reads as it did. -/
def runWritesSpec : ChangeSpec := { name := "runWrites", fn := fun _ => fun
  | [d1, d2] => { results := [.lit (.bool true)], args := [d1, d2] }
  | _ => none }
def runWritesRow : OpenClaim := { program := "ytfdbcfaeiglbeaagreatdoor", sum := "6d4f2cf54bfb6d2331744b69b169091afc2e5a6b52c77411eeeef5ee3c7c3a21", func := "strata/stratalaw7.RunWrites", spec := "runWrites", inPlace := ["internal/bytealg.Compare"], unfollowed := true, recurses := true, named := ["strata/wire.table"], apart := false, laid := [("strata/wire.table", laid_strata_wire_table)] }
def RunWritesSaid : Prop := runWritesRow.holds Tryz.pinned (OpenSpec.ofChange runWritesSpec)

/-- ITS FALSE NEIGHBOUR: 'it returns false'. Refute it at one input. -/
def runWritesWrong : ChangeSpec := { name := "runWrites", fn := fun _ => fun
  | [d1, d2] => { results := [.lit (.bool false)], args := [d1, d2] }
  | _ => none }
def RunWritesWrongFalsely : Prop := runWritesRow.holds Tryz.pinned (OpenSpec.ofChange runWritesWrong)

/-- 'stratalaw7.RunOne': WHATEVER THE INPUT: true; the input reads as it did. -/
def runOneSpec : ChangeSpec := { name := "runOne", fn := fun _ => fun
  | [d1, d2, d3, d4] => { results := [.lit (.bool true)], args := [d1, d2, d3, d4] }
  | _ => none }
def runOneRow : OpenClaim := { program := "ytfdbcfaeiglbeaagreatdoor", sum := "6d4f2cf54bfb6d2331744b69b169091afc2e5a6b52c77411eeeef5ee3c7c3a21", func := "strata/stratalaw7.RunOne", spec := "runOne", inPlace := ["internal/bytealg.Compare"], unfollowed := true, recurses := true, named := ["strata/wire.table"], apart := false, laid := [("strata/wire.table", laid_strata_wire_table)] }
def RunOneSaid : Prop := runOneRow.holds Tryz.pinned (OpenSpec.ofChange runOneSpec)

/-- ITS FALSE NEIGHBOUR: 'it returns false'. Refute it at one input. -/
def runOneWrong : ChangeSpec := { name := "runOne", fn := fun _ => fun
  | [d1, d2, d3, d4] => { results := [.lit (.bool false)], args := [d1, d2, d3, d4] }
  | _ => none }
def RunOneWrongFalsely : Prop := runOneRow.holds Tryz.pinned (OpenSpec.ofChange runOneWrong)

/-- 'stratalaw7.RunLent': WHATEVER THE INPUT: true; the input reads as it did. -/
def runLentSpec : ChangeSpec := { name := "runLent", fn := fun _ => fun
  | [d1, d2, d3, d4, d5] => { results := [.lit (.bool true)], args := [d1, d2, d3, d4, d5] }
  | _ => none }
def runLentRow : OpenClaim := { program := "ytfdbcfaeiglbeaagreatdoor", sum := "6d4f2cf54bfb6d2331744b69b169091afc2e5a6b52c77411eeeef5ee3c7c3a21", func := "strata/stratalaw7.RunLent", spec := "runLent", inPlace := ["internal/bytealg.Compare"], unfollowed := true, recurses := true, named := ["strata/wire.table"], apart := false, laid := [("strata/wire.table", laid_strata_wire_table)] }
def RunLentSaid : Prop := runLentRow.holds Tryz.pinned (OpenSpec.ofChange runLentSpec)

/-- ITS FALSE NEIGHBOUR: 'it returns false'. Refute it at one input. -/
def runLentWrong : ChangeSpec := { name := "runLent", fn := fun _ => fun
  | [d1, d2, d3, d4, d5] => { results := [.lit (.bool false)], args := [d1, d2, d3, d4, d5] }
  | _ => none }
def RunLentWrongFalsely : Prop := runLentRow.holds Tryz.pinned (OpenSpec.ofChange runLentWrong)

/-- 'stratalaw7.RunTells': WHATEVER THE INPUT: true; the input reads as it did. -/
def runTellsSpec : ChangeSpec := { name := "runTells", fn := fun _ => fun
  | [d1, d2, d3, d4, d5] => { results := [.lit (.bool true)], args := [d1, d2, d3, d4, d5] }
  | _ => none }
def runTellsRow : OpenClaim := { program := "ytfdbcfaeiglbeaagreatdoor", sum := "6d4f2cf54bfb6d2331744b69b169091afc2e5a6b52c77411eeeef5ee3c7c3a21", func := "strata/stratalaw7.RunTells", spec := "runTells", inPlace := ["internal/bytealg.Compare"], unfollowed := true, recurses := true, named := ["strata/wire.table"], apart := false, laid := [("strata/wire.table", laid_strata_wire_table)] }
def RunTellsSaid : Prop := runTellsRow.holds Tryz.pinned (OpenSpec.ofChange runTellsSpec)

/-- ITS FALSE NEIGHBOUR: 'it returns false'. Refute it at one input. -/
def runTellsWrong : ChangeSpec := { name := "runTells", fn := fun _ => fun
  | [d1, d2, d3, d4, d5] => { results := [.lit (.bool false)], args := [d1, d2, d3, d4, d5] }
  | _ => none }
def RunTellsWrongFalsely : Prop := runTellsRow.holds Tryz.pinned (OpenSpec.ofChange runTellsWrong)

/-- 'stratalaw7.RunBursts': WHATEVER THE INPUT: true; the input reads as it did. -/
def runBurstsSpec : ChangeSpec := { name := "runBursts", fn := fun _ => fun
  | [d1, d2, d3, d4] => { results := [.lit (.bool true)], args := [d1, d2, d3, d4] }
  | _ => none }
def runBurstsRow : OpenClaim := { program := "ytfdbcfaeiglbeaagreatdoor", sum := "6d4f2cf54bfb6d2331744b69b169091afc2e5a6b52c77411eeeef5ee3c7c3a21", func := "strata/stratalaw7.RunBursts", spec := "runBursts", inPlace := ["internal/bytealg.Compare"], unfollowed := true, recurses := true, named := ["strata/wire.table"], apart := false, laid := [("strata/wire.table", laid_strata_wire_table)] }
def RunBurstsSaid : Prop := runBurstsRow.holds Tryz.pinned (OpenSpec.ofChange runBurstsSpec)

/-- ITS FALSE NEIGHBOUR: 'it returns false'. Refute it at one input. -/
def runBurstsWrong : ChangeSpec := { name := "runBursts", fn := fun _ => fun
  | [d1, d2, d3, d4] => { results := [.lit (.bool false)], args := [d1, d2, d3, d4] }
  | _ => none }
def RunBurstsWrongFalsely : Prop := runBurstsRow.holds Tryz.pinned (OpenSpec.ofChange runBurstsWrong)

/-- 'stratalaw7.RunOwn': WHATEVER THE INPUT: true; the input reads as it did. -/
def runOwnSpec : ChangeSpec := { name := "runOwn", fn := fun _ => fun
  | [d1, d2, d3] => { results := [.lit (.bool true)], args := [d1, d2, d3] }
  | _ => none }
def runOwnRow : OpenClaim := { program := "ytfdbcfaeiglbeaagreatdoor", sum := "6d4f2cf54bfb6d2331744b69b169091afc2e5a6b52c77411eeeef5ee3c7c3a21", func := "strata/stratalaw7.RunOwn", spec := "runOwn", inPlace := ["internal/bytealg.Compare"], unfollowed := true, recurses := true, named := ["strata/wire.table"], apart := false, laid := [("strata/wire.table", laid_strata_wire_table)] }
def RunOwnSaid : Prop := runOwnRow.holds Tryz.pinned (OpenSpec.ofChange runOwnSpec)

/-- ITS FALSE NEIGHBOUR: 'it returns false'. Refute it at one input. -/
def runOwnWrong : ChangeSpec := { name := "runOwn", fn := fun _ => fun
  | [d1, d2, d3] => { results := [.lit (.bool false)], args := [d1, d2, d3] }
  | _ => none }
def RunOwnWrongFalsely : Prop := runOwnRow.holds Tryz.pinned (OpenSpec.ofChange runOwnWrong)

/-- 'stratalaw7.RunBack': WHATEVER THE INPUT: true; the input reads as it did. -/
def runBackSpec : ChangeSpec := { name := "runBack", fn := fun _ => fun
  | [d1, d2] => { results := [.lit (.bool true)], args := [d1, d2] }
  | _ => none }
def runBackRow : OpenClaim := { program := "ytfdbcfaeiglbeaagreatdoor", sum := "6d4f2cf54bfb6d2331744b69b169091afc2e5a6b52c77411eeeef5ee3c7c3a21", func := "strata/stratalaw7.RunBack", spec := "runBack", inPlace := ["internal/bytealg.Compare"], unfollowed := true, recurses := true, named := ["strata/wire.table"], apart := false, laid := [("strata/wire.table", laid_strata_wire_table)] }
def RunBackSaid : Prop := runBackRow.holds Tryz.pinned (OpenSpec.ofChange runBackSpec)

/-- ITS FALSE NEIGHBOUR: 'it returns false'. Refute it at one input. -/
def runBackWrong : ChangeSpec := { name := "runBack", fn := fun _ => fun
  | [d1, d2] => { results := [.lit (.bool false)], args := [d1, d2] }
  | _ => none }
def RunBackWrongFalsely : Prop := runBackRow.holds Tryz.pinned (OpenSpec.ofChange runBackWrong)

/-- 'stratalaw7.RunOpens': WHATEVER THE INPUT: true; the input reads as it did. -/
def runOpensSpec : ChangeSpec := { name := "runOpens", fn := fun _ => fun
  | [d1, d2] => { results := [.lit (.bool true)], args := [d1, d2] }
  | _ => none }
def runOpensRow : OpenClaim := { program := "ytfdbcfaeiglbeaagreatdoor", sum := "6d4f2cf54bfb6d2331744b69b169091afc2e5a6b52c77411eeeef5ee3c7c3a21", func := "strata/stratalaw7.RunOpens", spec := "runOpens", inPlace := ["internal/bytealg.Compare"], unfollowed := true, recurses := true, named := ["strata/wire.table"], apart := false, laid := [("strata/wire.table", laid_strata_wire_table)] }
def RunOpensSaid : Prop := runOpensRow.holds Tryz.pinned (OpenSpec.ofChange runOpensSpec)

/-- ITS FALSE NEIGHBOUR: 'it returns false'. Refute it at one input. -/
def runOpensWrong : ChangeSpec := { name := "runOpens", fn := fun _ => fun
  | [d1, d2] => { results := [.lit (.bool false)], args := [d1, d2] }
  | _ => none }
def RunOpensWrongFalsely : Prop := runOpensRow.holds Tryz.pinned (OpenSpec.ofChange runOpensWrong)

/-- 'stratalaw7.RunPlays': WHATEVER THE INPUT: true; the input reads as it did. -/
def runPlaysSpec : ChangeSpec := { name := "runPlays", fn := fun _ => fun
  | [d1, d2, d3, d4, d5] => { results := [.lit (.bool true)], args := [d1, d2, d3, d4, d5] }
  | _ => none }
def runPlaysRow : OpenClaim := { program := "ytfdbcfaeiglbeaagreatdoor", sum := "6d4f2cf54bfb6d2331744b69b169091afc2e5a6b52c77411eeeef5ee3c7c3a21", func := "strata/stratalaw7.RunPlays", spec := "runPlays", inPlace := ["internal/bytealg.Compare"], unfollowed := true, recurses := true, named := ["strata/wire.table"], apart := false, laid := [("strata/wire.table", laid_strata_wire_table)] }
def RunPlaysSaid : Prop := runPlaysRow.holds Tryz.pinned (OpenSpec.ofChange runPlaysSpec)

/-- ITS FALSE NEIGHBOUR: 'it returns false'. Refute it at one input. -/
def runPlaysWrong : ChangeSpec := { name := "runPlays", fn := fun _ => fun
  | [d1, d2, d3, d4, d5] => { results := [.lit (.bool false)], args := [d1, d2, d3, d4, d5] }
  | _ => none }
def RunPlaysWrongFalsely : Prop := runPlaysRow.holds Tryz.pinned (OpenSpec.ofChange runPlaysWrong)

/- THE SECOND FORM. 'bulk': how many values and letters a reading holds, each counted each time it is reached (what is shared counts as often as it is met; a slice's spare places count too). A statement '..UptoSaid' is the law's where the arguments, and the package variables that the reading takes, are together of bulk at most 1048576: NARROWER than '..Said'. Prove '..Said' where nothing that the law and all that it calls make is longer than what came in: it says more and counts as full. Else prove '..UptoSaid'. A law counts once. -/
mutual
def uptoBulk {H : Type} : DataW H → Nat
  | .lit (.string bytes) => bytes.length + 1
  | .lit _ => 1
  | .nil => 1
  | .ptr d => uptoBulk d + 1
  | .slice elems spare => uptoBulkAll elems + uptoBulkAll spare + 1
  | .agg parts => uptoBulkAll parts + 1
  | .iface _ d => uptoBulk d + 1
  | .map entries => uptoBulkEntries entries + 1
  | .held _ => 1
def uptoBulkAll {H : Type} : List (DataW H) → Nat
  | [] => 0
  | d :: r => uptoBulk d + uptoBulkAll r
def uptoBulkEntries {H : Type} : List (Lit × DataW H) → Nat
  | [] => 0
  | x :: r => uptoBulkEntry x + uptoBulkEntries r
def uptoBulkEntry {H : Type} : Lit × DataW H → Nat
  | (.string bytes, d) => bytes.length + uptoBulk d + 1
  | (_, d) => uptoBulk d + 1
 end
def uptoSmall : (H : Type) → List (DataW H) → Bool := fun _ ds => decide (uptoBulkAll ds ≤ 1048576)
def OpenSpec.upto (s : _root_.Go.ChangeSpec) : _root_.Go.OpenSpec := { _root_.Go.OpenSpec.ofChange s with cond := some uptoSmall }

/-- 'stratalaw7.RunAgain', WHERE WHAT IT READS IS OF BULK AT MOST 1048576: true; the input reads as it did. -/
def runAgainUptoRow : OpenClaim := { program := "ytfdbcfaeiglbeaagreatdoor", sum := "6d4f2cf54bfb6d2331744b69b169091afc2e5a6b52c77411eeeef5ee3c7c3a21", func := "strata/stratalaw7.RunAgain", spec := "runAgain", inPlace := ["internal/bytealg.Compare"], unfollowed := true, recurses := true, named := ["strata/wire.table"], apart := false, laid := [("strata/wire.table", laid_strata_wire_table)], narrowed := true }
def RunAgainUptoSaid : Prop := runAgainUptoRow.holds Tryz.pinned (OpenSpec.upto runAgainSpec)

/-- 'stratalaw7.RunMany', WHERE WHAT IT READS IS OF BULK AT MOST 1048576: true; the input reads as it did. -/
def runManyUptoRow : OpenClaim := { program := "ytfdbcfaeiglbeaagreatdoor", sum := "6d4f2cf54bfb6d2331744b69b169091afc2e5a6b52c77411eeeef5ee3c7c3a21", func := "strata/stratalaw7.RunMany", spec := "runMany", inPlace := ["internal/bytealg.Compare"], unfollowed := true, recurses := true, named := ["strata/wire.table"], apart := false, laid := [("strata/wire.table", laid_strata_wire_table)], narrowed := true }
def RunManyUptoSaid : Prop := runManyUptoRow.holds Tryz.pinned (OpenSpec.upto runManySpec)

/-- 'stratalaw7.RunSeeks', WHERE WHAT IT READS IS OF BULK AT MOST 1048576: true; the input reads as it did. -/
def runSeeksUptoRow : OpenClaim := { program := "ytfdbcfaeiglbeaagreatdoor", sum := "6d4f2cf54bfb6d2331744b69b169091afc2e5a6b52c77411eeeef5ee3c7c3a21", func := "strata/stratalaw7.RunSeeks", spec := "runSeeks", inPlace := ["internal/bytealg.Compare"], unfollowed := true, recurses := true, named := ["strata/wire.table"], apart := false, laid := [("strata/wire.table", laid_strata_wire_table)], narrowed := true }
def RunSeeksUptoSaid : Prop := runSeeksUptoRow.holds Tryz.pinned (OpenSpec.upto runSeeksSpec)

/-- 'stratalaw7.RunWrites', WHERE WHAT IT READS IS OF BULK AT MOST 1048576: true; the input reads as it did. -/
def runWritesUptoRow : OpenClaim := { program := "ytfdbcfaeiglbeaagreatdoor", sum := "6d4f2cf54bfb6d2331744b69b169091afc2e5a6b52c77411eeeef5ee3c7c3a21", func := "strata/stratalaw7.RunWrites", spec := "runWrites", inPlace := ["internal/bytealg.Compare"], unfollowed := true, recurses := true, named := ["strata/wire.table"], apart := false, laid := [("strata/wire.table", laid_strata_wire_table)], narrowed := true }
def RunWritesUptoSaid : Prop := runWritesUptoRow.holds Tryz.pinned (OpenSpec.upto runWritesSpec)

/-- 'stratalaw7.RunOne', WHERE WHAT IT READS IS OF BULK AT MOST 1048576: true; the input reads as it did. -/
def runOneUptoRow : OpenClaim := { program := "ytfdbcfaeiglbeaagreatdoor", sum := "6d4f2cf54bfb6d2331744b69b169091afc2e5a6b52c77411eeeef5ee3c7c3a21", func := "strata/stratalaw7.RunOne", spec := "runOne", inPlace := ["internal/bytealg.Compare"], unfollowed := true, recurses := true, named := ["strata/wire.table"], apart := false, laid := [("strata/wire.table", laid_strata_wire_table)], narrowed := true }
def RunOneUptoSaid : Prop := runOneUptoRow.holds Tryz.pinned (OpenSpec.upto runOneSpec)

/-- 'stratalaw7.RunLent', WHERE WHAT IT READS IS OF BULK AT MOST 1048576: true; the input reads as it did. -/
def runLentUptoRow : OpenClaim := { program := "ytfdbcfaeiglbeaagreatdoor", sum := "6d4f2cf54bfb6d2331744b69b169091afc2e5a6b52c77411eeeef5ee3c7c3a21", func := "strata/stratalaw7.RunLent", spec := "runLent", inPlace := ["internal/bytealg.Compare"], unfollowed := true, recurses := true, named := ["strata/wire.table"], apart := false, laid := [("strata/wire.table", laid_strata_wire_table)], narrowed := true }
def RunLentUptoSaid : Prop := runLentUptoRow.holds Tryz.pinned (OpenSpec.upto runLentSpec)

/-- 'stratalaw7.RunTells', WHERE WHAT IT READS IS OF BULK AT MOST 1048576: true; the input reads as it did. -/
def runTellsUptoRow : OpenClaim := { program := "ytfdbcfaeiglbeaagreatdoor", sum := "6d4f2cf54bfb6d2331744b69b169091afc2e5a6b52c77411eeeef5ee3c7c3a21", func := "strata/stratalaw7.RunTells", spec := "runTells", inPlace := ["internal/bytealg.Compare"], unfollowed := true, recurses := true, named := ["strata/wire.table"], apart := false, laid := [("strata/wire.table", laid_strata_wire_table)], narrowed := true }
def RunTellsUptoSaid : Prop := runTellsUptoRow.holds Tryz.pinned (OpenSpec.upto runTellsSpec)

/-- 'stratalaw7.RunBursts', WHERE WHAT IT READS IS OF BULK AT MOST 1048576: true; the input reads as it did. -/
def runBurstsUptoRow : OpenClaim := { program := "ytfdbcfaeiglbeaagreatdoor", sum := "6d4f2cf54bfb6d2331744b69b169091afc2e5a6b52c77411eeeef5ee3c7c3a21", func := "strata/stratalaw7.RunBursts", spec := "runBursts", inPlace := ["internal/bytealg.Compare"], unfollowed := true, recurses := true, named := ["strata/wire.table"], apart := false, laid := [("strata/wire.table", laid_strata_wire_table)], narrowed := true }
def RunBurstsUptoSaid : Prop := runBurstsUptoRow.holds Tryz.pinned (OpenSpec.upto runBurstsSpec)

/-- 'stratalaw7.RunOwn', WHERE WHAT IT READS IS OF BULK AT MOST 1048576: true; the input reads as it did. -/
def runOwnUptoRow : OpenClaim := { program := "ytfdbcfaeiglbeaagreatdoor", sum := "6d4f2cf54bfb6d2331744b69b169091afc2e5a6b52c77411eeeef5ee3c7c3a21", func := "strata/stratalaw7.RunOwn", spec := "runOwn", inPlace := ["internal/bytealg.Compare"], unfollowed := true, recurses := true, named := ["strata/wire.table"], apart := false, laid := [("strata/wire.table", laid_strata_wire_table)], narrowed := true }
def RunOwnUptoSaid : Prop := runOwnUptoRow.holds Tryz.pinned (OpenSpec.upto runOwnSpec)

/-- 'stratalaw7.RunBack', WHERE WHAT IT READS IS OF BULK AT MOST 1048576: true; the input reads as it did. -/
def runBackUptoRow : OpenClaim := { program := "ytfdbcfaeiglbeaagreatdoor", sum := "6d4f2cf54bfb6d2331744b69b169091afc2e5a6b52c77411eeeef5ee3c7c3a21", func := "strata/stratalaw7.RunBack", spec := "runBack", inPlace := ["internal/bytealg.Compare"], unfollowed := true, recurses := true, named := ["strata/wire.table"], apart := false, laid := [("strata/wire.table", laid_strata_wire_table)], narrowed := true }
def RunBackUptoSaid : Prop := runBackUptoRow.holds Tryz.pinned (OpenSpec.upto runBackSpec)

/-- 'stratalaw7.RunOpens', WHERE WHAT IT READS IS OF BULK AT MOST 1048576: true; the input reads as it did. -/
def runOpensUptoRow : OpenClaim := { program := "ytfdbcfaeiglbeaagreatdoor", sum := "6d4f2cf54bfb6d2331744b69b169091afc2e5a6b52c77411eeeef5ee3c7c3a21", func := "strata/stratalaw7.RunOpens", spec := "runOpens", inPlace := ["internal/bytealg.Compare"], unfollowed := true, recurses := true, named := ["strata/wire.table"], apart := false, laid := [("strata/wire.table", laid_strata_wire_table)], narrowed := true }
def RunOpensUptoSaid : Prop := runOpensUptoRow.holds Tryz.pinned (OpenSpec.upto runOpensSpec)

/-- 'stratalaw7.RunPlays', WHERE WHAT IT READS IS OF BULK AT MOST 1048576: true; the input reads as it did. -/
def runPlaysUptoRow : OpenClaim := { program := "ytfdbcfaeiglbeaagreatdoor", sum := "6d4f2cf54bfb6d2331744b69b169091afc2e5a6b52c77411eeeef5ee3c7c3a21", func := "strata/stratalaw7.RunPlays", spec := "runPlays", inPlace := ["internal/bytealg.Compare"], unfollowed := true, recurses := true, named := ["strata/wire.table"], apart := false, laid := [("strata/wire.table", laid_strata_wire_table)], narrowed := true }
def RunPlaysUptoSaid : Prop := runPlaysUptoRow.holds Tryz.pinned (OpenSpec.upto runPlaysSpec)

end Rows
end Go.Proofs.YtfdbcfaeiglbeaaGreatDoor
