/-
  NARROWER THAN 'FOR EVERY INPUT', by the rows' own cells (each row's printed sentence says how): BlockBack: laid · BlockSeeks: laid · BlockBurst: laid · BlockLent: laid · BlockBuilds: laid · BlockLong: laid.
  DERIVED. THE GIVEN ROWS OF THIS SEAT. 6 by the template 'for every input the law returns true; each argument reads behind the call as it read before'; 0 by the template 'total and deterministic' (their statements: YtmigjipfomfacaaDoorTotals.lean).
  GIVEN WITH THE SEED: the statements are not yours to turn. If you find one false, say at which input.
  Laid BY PROGRAM, IN A SANDBOX (cutbox-rows.mjs): the forced cells as the released guide's own fill.sh prints them over the translation 7de3a084b998dc9a… (all of the seat's roots in one cut). By AI agents, Wed Nov 11 2026. No macro, syntax, notation, axiom, sorry.
-/
import Derived.Test.YtmigjipfomfacaaDoorChecked
import GoSem.Claim
import GoSem.ClaimJoined
import GoSem.ClaimMapViews
import Derived.JoinedTies
import Derived.KernelRfl
namespace Go.Proofs.YtmigjipfomfacaaDoor
/- THE CELL 'sum', in the pinned program and in every row, IS THE sha256 OF THE DUMP (.gsa) THAT YtmigjipfomfacaaDoorProg.lean LOADS. Nothing in Lean hashes anything: it is a label: what it is worth is what the hold of that sum in a sandbox is worth. -/
noncomputable def Tryd.pinned : Pinned := { name := "ytmigjipfomfacaadoor", sum := "7de3a084b998dc9afc59b3ab648faf87068f7f7a2a23ad7a69fe3c0cc8d1d665", checked := Tryd.checked }
namespace Rows
def none {H : Type} : Left H := { results := [], args := [] }

/- WHAT THE LISTED PACKAGE-LEVEL VARIABLES READ AS WHEN THE CALL BEGINS. Each datum BY PROGRAM (the guide's laid-datum.mjs) off the statement by which the dump's own 'gosem.cut.vars' lays the variable. In a bare row this is a premise. The card (YtmigjipfomfacaaDoorCards.lean) ties it to the program's text. -/
def laid_strata_wire_table {H : Type} : DataW H := .agg [.lit (.int .u32 0), .lit (.int .u32 274646895), .lit (.int .u32 549293790), .lit (.int .u32 820201905), .lit (.int .u32 1098587580), .lit (.int .u32 1361435347), .lit (.int .u32 1640403810), .lit (.int .u32 1905808397), .lit (.int .u32 2197175160), .lit (.int .u32 2460548119), .lit (.int .u32 2722870694), .lit (.int .u32 2987750089), .lit (.int .u32 3280807620), .lit (.int .u32 3553878443), .lit (.int .u32 3811616794), .lit (.int .u32 4084100981)]

/-- 'stratalaw5.BlockBack': WHATEVER THE INPUT: true; the input reads as it did. -/
def blockBackSpec : ChangeSpec := { name := "blockBack", fn := fun _ => fun
  | [d1, d2, d3] => { results := [.lit (.bool true)], args := [d1, d2, d3] }
  | _ => none }
def blockBackRow : OpenClaim := { program := "ytmigjipfomfacaadoor", sum := "7de3a084b998dc9afc59b3ab648faf87068f7f7a2a23ad7a69fe3c0cc8d1d665", func := "strata/stratalaw5.BlockBack", spec := "blockBack", inPlace := ["internal/bytealg.Compare"], unfollowed := true, recurses := true, named := ["strata/wire.table"], apart := false, laid := [("strata/wire.table", laid_strata_wire_table)] }
def BlockBackSaid : Prop := blockBackRow.holds Tryd.pinned (OpenSpec.ofChange blockBackSpec)

/-- ITS FALSE NEIGHBOUR: 'it returns false'. Refute it at one input. -/
def blockBackWrong : ChangeSpec := { name := "blockBack", fn := fun _ => fun
  | [d1, d2, d3] => { results := [.lit (.bool false)], args := [d1, d2, d3] }
  | _ => none }
def BlockBackWrongFalsely : Prop := blockBackRow.holds Tryd.pinned (OpenSpec.ofChange blockBackWrong)

/-- 'stratalaw5.BlockSeeks': WHATEVER THE INPUT: true; the input reads as it did. -/
def blockSeeksSpec : ChangeSpec := { name := "blockSeeks", fn := fun _ => fun
  | [d1, d2, d3] => { results := [.lit (.bool true)], args := [d1, d2, d3] }
  | _ => none }
def blockSeeksRow : OpenClaim := { program := "ytmigjipfomfacaadoor", sum := "7de3a084b998dc9afc59b3ab648faf87068f7f7a2a23ad7a69fe3c0cc8d1d665", func := "strata/stratalaw5.BlockSeeks", spec := "blockSeeks", inPlace := ["internal/bytealg.Compare"], unfollowed := true, recurses := true, named := ["strata/wire.table"], apart := false, laid := [("strata/wire.table", laid_strata_wire_table)] }
def BlockSeeksSaid : Prop := blockSeeksRow.holds Tryd.pinned (OpenSpec.ofChange blockSeeksSpec)

/-- ITS FALSE NEIGHBOUR: 'it returns false'. Refute it at one input. -/
def blockSeeksWrong : ChangeSpec := { name := "blockSeeks", fn := fun _ => fun
  | [d1, d2, d3] => { results := [.lit (.bool false)], args := [d1, d2, d3] }
  | _ => none }
def BlockSeeksWrongFalsely : Prop := blockSeeksRow.holds Tryd.pinned (OpenSpec.ofChange blockSeeksWrong)

/-- 'stratalaw5.BlockBurst': WHATEVER THE INPUT: true; the input reads as it did. -/
def blockBurstSpec : ChangeSpec := { name := "blockBurst", fn := fun _ => fun
  | [d1, d2, d3, d4] => { results := [.lit (.bool true)], args := [d1, d2, d3, d4] }
  | _ => none }
def blockBurstRow : OpenClaim := { program := "ytmigjipfomfacaadoor", sum := "7de3a084b998dc9afc59b3ab648faf87068f7f7a2a23ad7a69fe3c0cc8d1d665", func := "strata/stratalaw5.BlockBurst", spec := "blockBurst", inPlace := ["internal/bytealg.Compare"], unfollowed := true, recurses := true, named := ["strata/wire.table"], apart := false, laid := [("strata/wire.table", laid_strata_wire_table)] }
def BlockBurstSaid : Prop := blockBurstRow.holds Tryd.pinned (OpenSpec.ofChange blockBurstSpec)

/-- ITS FALSE NEIGHBOUR: 'it returns false'. Refute it at one input. -/
def blockBurstWrong : ChangeSpec := { name := "blockBurst", fn := fun _ => fun
  | [d1, d2, d3, d4] => { results := [.lit (.bool false)], args := [d1, d2, d3, d4] }
  | _ => none }
def BlockBurstWrongFalsely : Prop := blockBurstRow.holds Tryd.pinned (OpenSpec.ofChange blockBurstWrong)

/-- 'stratalaw5.BlockLent': WHATEVER THE INPUT: true; the input reads as it did. -/
def blockLentSpec : ChangeSpec := { name := "blockLent", fn := fun _ => fun
  | [d1, d2] => { results := [.lit (.bool true)], args := [d1, d2] }
  | _ => none }
def blockLentRow : OpenClaim := { program := "ytmigjipfomfacaadoor", sum := "7de3a084b998dc9afc59b3ab648faf87068f7f7a2a23ad7a69fe3c0cc8d1d665", func := "strata/stratalaw5.BlockLent", spec := "blockLent", inPlace := ["internal/bytealg.Compare"], unfollowed := true, recurses := true, named := ["strata/wire.table"], apart := false, laid := [("strata/wire.table", laid_strata_wire_table)] }
def BlockLentSaid : Prop := blockLentRow.holds Tryd.pinned (OpenSpec.ofChange blockLentSpec)

/-- ITS FALSE NEIGHBOUR: 'it returns false'. Refute it at one input. -/
def blockLentWrong : ChangeSpec := { name := "blockLent", fn := fun _ => fun
  | [d1, d2] => { results := [.lit (.bool false)], args := [d1, d2] }
  | _ => none }
def BlockLentWrongFalsely : Prop := blockLentRow.holds Tryd.pinned (OpenSpec.ofChange blockLentWrong)

/-- 'stratalaw5.BlockBuilds': WHATEVER THE INPUT: true; the input reads as it did. -/
def blockBuildsSpec : ChangeSpec := { name := "blockBuilds", fn := fun _ => fun
  | [d1, d2, d3, d4] => { results := [.lit (.bool true)], args := [d1, d2, d3, d4] }
  | _ => none }
def blockBuildsRow : OpenClaim := { program := "ytmigjipfomfacaadoor", sum := "7de3a084b998dc9afc59b3ab648faf87068f7f7a2a23ad7a69fe3c0cc8d1d665", func := "strata/stratalaw5.BlockBuilds", spec := "blockBuilds", inPlace := ["internal/bytealg.Compare"], unfollowed := true, recurses := true, named := ["strata/wire.table"], apart := false, laid := [("strata/wire.table", laid_strata_wire_table)] }
def BlockBuildsSaid : Prop := blockBuildsRow.holds Tryd.pinned (OpenSpec.ofChange blockBuildsSpec)

/-- ITS FALSE NEIGHBOUR: 'it returns false'. Refute it at one input. -/
def blockBuildsWrong : ChangeSpec := { name := "blockBuilds", fn := fun _ => fun
  | [d1, d2, d3, d4] => { results := [.lit (.bool false)], args := [d1, d2, d3, d4] }
  | _ => none }
def BlockBuildsWrongFalsely : Prop := blockBuildsRow.holds Tryd.pinned (OpenSpec.ofChange blockBuildsWrong)

/-- 'stratalaw5.BlockLong': WHATEVER THE INPUT: true; the input reads as it did. -/
def blockLongSpec : ChangeSpec := { name := "blockLong", fn := fun _ => fun
  | [d1, d2, d3, d4] => { results := [.lit (.bool true)], args := [d1, d2, d3, d4] }
  | _ => none }
def blockLongRow : OpenClaim := { program := "ytmigjipfomfacaadoor", sum := "7de3a084b998dc9afc59b3ab648faf87068f7f7a2a23ad7a69fe3c0cc8d1d665", func := "strata/stratalaw5.BlockLong", spec := "blockLong", inPlace := ["internal/bytealg.Compare"], unfollowed := true, recurses := true, named := ["strata/wire.table"], apart := false, laid := [("strata/wire.table", laid_strata_wire_table)] }
def BlockLongSaid : Prop := blockLongRow.holds Tryd.pinned (OpenSpec.ofChange blockLongSpec)

/-- ITS FALSE NEIGHBOUR: 'it returns false'. Refute it at one input. -/
def blockLongWrong : ChangeSpec := { name := "blockLong", fn := fun _ => fun
  | [d1, d2, d3, d4] => { results := [.lit (.bool false)], args := [d1, d2, d3, d4] }
  | _ => none }
def BlockLongWrongFalsely : Prop := blockLongRow.holds Tryd.pinned (OpenSpec.ofChange blockLongWrong)

/- THE SECOND FORM. 'bulk': how many values and letters a reading holds, each counted each time it is reached (what is shared counts as often as it is met; a slice's spare places count too). A statement '..UptoSaid' is the law's where the arguments, and the package variables that the reading takes, are together of bulk at most 1048576: NARROWER than '..Said'. Prove '..Said' where nothing that the law and all that it calls make is longer than what came in: it says more and counts as full. Else prove '..UptoSaid'. A law counts once. -/
mutual
def uptoBulk {H : Type} : DataW H → Nat
  | .lit (.string bytes) => bytes.length + 1
  | .lit _ => 1
  | .nil => 1
  | .ptr d => uptoBulk d + 1
  | .slice elems spare => uptoBulkAll elems + uptoBulkAll spare + 1
  | .agg parts => uptoBulkAll parts + 1
  | .iface _ d => uptoBulk d + 1
  | .map entries => uptoBulkEntries entries + 1
  | .held _ => 1
def uptoBulkAll {H : Type} : List (DataW H) → Nat
  | [] => 0
  | d :: r => uptoBulk d + uptoBulkAll r
def uptoBulkEntries {H : Type} : List (Lit × DataW H) → Nat
  | [] => 0
  | x :: r => uptoBulkEntry x + uptoBulkEntries r
def uptoBulkEntry {H : Type} : Lit × DataW H → Nat
  | (.string bytes, d) => bytes.length + uptoBulk d + 1
  | (_, d) => uptoBulk d + 1
 end
def uptoSmall : (H : Type) → List (DataW H) → Bool := fun _ ds => decide (uptoBulkAll ds ≤ 1048576)
def OpenSpec.upto (s : _root_.Go.ChangeSpec) : _root_.Go.OpenSpec := { _root_.Go.OpenSpec.ofChange s with cond := some uptoSmall }

/-- 'stratalaw5.BlockBack', WHERE WHAT IT READS IS OF BULK AT MOST 1048576: true; the input reads as it did. -/
def blockBackUptoRow : OpenClaim := { program := "ytmigjipfomfacaadoor", sum := "7de3a084b998dc9afc59b3ab648faf87068f7f7a2a23ad7a69fe3c0cc8d1d665", func := "strata/stratalaw5.BlockBack", spec := "blockBack", inPlace := ["internal/bytealg.Compare"], unfollowed := true, recurses := true, named := ["strata/wire.table"], apart := false, laid := [("strata/wire.table", laid_strata_wire_table)], narrowed := true }
def BlockBackUptoSaid : Prop := blockBackUptoRow.holds Tryd.pinned (OpenSpec.upto blockBackSpec)

/-- 'stratalaw5.BlockSeeks', WHERE WHAT IT READS IS OF BULK AT MOST 1048576: true; the input reads as it did. -/
def blockSeeksUptoRow : OpenClaim := { program := "ytmigjipfomfacaadoor", sum := "7de3a084b998dc9afc59b3ab648faf87068f7f7a2a23ad7a69fe3c0cc8d1d665", func := "strata/stratalaw5.BlockSeeks", spec := "blockSeeks", inPlace := ["internal/bytealg.Compare"], unfollowed := true, recurses := true, named := ["strata/wire.table"], apart := false, laid := [("strata/wire.table", laid_strata_wire_table)], narrowed := true }
def BlockSeeksUptoSaid : Prop := blockSeeksUptoRow.holds Tryd.pinned (OpenSpec.upto blockSeeksSpec)

/-- 'stratalaw5.BlockBurst', WHERE WHAT IT READS IS OF BULK AT MOST 1048576: true; the input reads as it did. -/
def blockBurstUptoRow : OpenClaim := { program := "ytmigjipfomfacaadoor", sum := "7de3a084b998dc9afc59b3ab648faf87068f7f7a2a23ad7a69fe3c0cc8d1d665", func := "strata/stratalaw5.BlockBurst", spec := "blockBurst", inPlace := ["internal/bytealg.Compare"], unfollowed := true, recurses := true, named := ["strata/wire.table"], apart := false, laid := [("strata/wire.table", laid_strata_wire_table)], narrowed := true }
def BlockBurstUptoSaid : Prop := blockBurstUptoRow.holds Tryd.pinned (OpenSpec.upto blockBurstSpec)

/-- 'stratalaw5.BlockLent', WHERE WHAT IT READS IS OF BULK AT MOST 1048576: true; the input reads as it did. -/
def blockLentUptoRow : OpenClaim := { program := "ytmigjipfomfacaadoor", sum := "7de3a084b998dc9afc59b3ab648faf87068f7f7a2a23ad7a69fe3c0cc8d1d665", func := "strata/stratalaw5.BlockLent", spec := "blockLent", inPlace := ["internal/bytealg.Compare"], unfollowed := true, recurses := true, named := ["strata/wire.table"], apart := false, laid := [("strata/wire.table", laid_strata_wire_table)], narrowed := true }
def BlockLentUptoSaid : Prop := blockLentUptoRow.holds Tryd.pinned (OpenSpec.upto blockLentSpec)

/-- 'stratalaw5.BlockBuilds', WHERE WHAT IT READS IS OF BULK AT MOST 1048576: true; the input reads as it did. -/
def blockBuildsUptoRow : OpenClaim := { program := "ytmigjipfomfacaadoor", sum := "7de3a084b998dc9afc59b3ab648faf87068f7f7a2a23ad7a69fe3c0cc8d1d665", func := "strata/stratalaw5.BlockBuilds", spec := "blockBuilds", inPlace := ["internal/bytealg.Compare"], unfollowed := true, recurses := true, named := ["strata/wire.table"], apart := false, laid := [("strata/wire.table", laid_strata_wire_table)], narrowed := true }
def BlockBuildsUptoSaid : Prop := blockBuildsUptoRow.holds Tryd.pinned (OpenSpec.upto blockBuildsSpec)

/-- 'stratalaw5.BlockLong', WHERE WHAT IT READS IS OF BULK AT MOST 1048576: true; the input reads as it did. -/
def blockLongUptoRow : OpenClaim := { program := "ytmigjipfomfacaadoor", sum := "7de3a084b998dc9afc59b3ab648faf87068f7f7a2a23ad7a69fe3c0cc8d1d665", func := "strata/stratalaw5.BlockLong", spec := "blockLong", inPlace := ["internal/bytealg.Compare"], unfollowed := true, recurses := true, named := ["strata/wire.table"], apart := false, laid := [("strata/wire.table", laid_strata_wire_table)], narrowed := true }
def BlockLongUptoSaid : Prop := blockLongUptoRow.holds Tryd.pinned (OpenSpec.upto blockLongSpec)

end Rows
end Go.Proofs.YtmigjipfomfacaaDoor
