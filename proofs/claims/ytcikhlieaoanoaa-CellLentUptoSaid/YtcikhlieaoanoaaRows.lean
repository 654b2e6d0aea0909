/-
  No cell of these rows narrows 'for every input' (looked for: loops, veiled, ifaces, maps, wideKeys, modest, calm, conditions, laid).
  DERIVED. THE GIVEN ROWS OF THIS SEAT. 9 by the template 'for every input the law returns true; each argument reads behind the call as it read before'; 0 by the template 'total and deterministic' (their statements: YtcikhlieaoanoaaTotals.lean).
  GIVEN WITH THE SEED: the statements are not yours to turn. If you find one false, say at which input.
  Laid BY PROGRAM, IN A SANDBOX (cutbox-rows.mjs): the forced cells as the released guide's own fill.sh prints them over the translation 830eedda802ab1ea… (all of the seat's roots in one cut). By AI agents, Wed Nov 11 2026. No macro, syntax, notation, axiom, sorry.
-/
import Derived.Test.YtcikhlieaoanoaaChecked
import GoSem.Claim
import GoSem.ClaimJoined
import GoSem.ClaimMapViews
import Derived.JoinedTies
import Derived.KernelRfl
namespace Go.Proofs.Ytcikhlieaoanoaa
/- THE CELL 'sum', in the pinned program and in every row, IS THE sha256 OF THE DUMP (.gsa) THAT YtcikhlieaoanoaaProg.lean LOADS. Nothing in Lean hashes anything: it is a label: what it is worth is what the hold of that sum in a sandbox is worth. -/
noncomputable def Try.pinned : Pinned := { name := "ytcikhlieaoanoaa", sum := "830eedda802ab1ea5be183349705635cbe28f377b0875828876b6045c1cbf83b", checked := Try.checked }
namespace Rows
def none {H : Type} : Left H := { results := [], args := [] }

/-- 'stratalaw2.CellParses': WHATEVER THE INPUT: true; the input reads as it did. -/
def cellParsesSpec : ChangeSpec := { name := "cellParses", fn := fun _ => fun
  | [d] => { results := [.lit (.bool true)], args := [d] }
  | _ => none }
def cellParsesRow : OpenClaim := { program := "ytcikhlieaoanoaa", sum := "830eedda802ab1ea5be183349705635cbe28f377b0875828876b6045c1cbf83b", func := "strata/stratalaw2.CellParses", spec := "cellParses", inPlace := ["internal/bytealg.Compare"], unfollowed := true, recurses := true, apart := false }
def CellParsesSaid : Prop := cellParsesRow.holds Try.pinned (OpenSpec.ofChange cellParsesSpec)

/-- ITS FALSE NEIGHBOUR: 'it returns false'. Refute it at one input. -/
def cellParsesWrong : ChangeSpec := { name := "cellParses", fn := fun _ => fun
  | [d] => { results := [.lit (.bool false)], args := [d] }
  | _ => none }
def CellParsesWrongFalsely : Prop := cellParsesRow.holds Try.pinned (OpenSpec.ofChange cellParsesWrong)

/-- 'stratalaw2.CellOrder': WHATEVER THE INPUT: true; the input reads as it did. -/
def cellOrderSpec : ChangeSpec := { name := "cellOrder", fn := fun _ => fun
  | [d1, d2, d3] => { results := [.lit (.bool true)], args := [d1, d2, d3] }
  | _ => none }
def cellOrderRow : OpenClaim := { program := "ytcikhlieaoanoaa", sum := "830eedda802ab1ea5be183349705635cbe28f377b0875828876b6045c1cbf83b", func := "strata/stratalaw2.CellOrder", spec := "cellOrder", inPlace := ["internal/bytealg.Compare"], unfollowed := true, recurses := true, apart := false }
def CellOrderSaid : Prop := cellOrderRow.holds Try.pinned (OpenSpec.ofChange cellOrderSpec)

/-- ITS FALSE NEIGHBOUR: 'it returns false'. Refute it at one input. -/
def cellOrderWrong : ChangeSpec := { name := "cellOrder", fn := fun _ => fun
  | [d1, d2, d3] => { results := [.lit (.bool false)], args := [d1, d2, d3] }
  | _ => none }
def CellOrderWrongFalsely : Prop := cellOrderRow.holds Try.pinned (OpenSpec.ofChange cellOrderWrong)

/-- 'stratalaw2.CellSorts': WHATEVER THE INPUT: true; the input reads as it did. -/
def cellSortsSpec : ChangeSpec := { name := "cellSorts", fn := fun _ => fun
  | [d1, d2] => { results := [.lit (.bool true)], args := [d1, d2] }
  | _ => none }
def cellSortsRow : OpenClaim := { program := "ytcikhlieaoanoaa", sum := "830eedda802ab1ea5be183349705635cbe28f377b0875828876b6045c1cbf83b", func := "strata/stratalaw2.CellSorts", spec := "cellSorts", inPlace := ["internal/bytealg.Compare"], unfollowed := true, recurses := true, apart := false }
def CellSortsSaid : Prop := cellSortsRow.holds Try.pinned (OpenSpec.ofChange cellSortsSpec)

/-- ITS FALSE NEIGHBOUR: 'it returns false'. Refute it at one input. -/
def cellSortsWrong : ChangeSpec := { name := "cellSorts", fn := fun _ => fun
  | [d1, d2] => { results := [.lit (.bool false)], args := [d1, d2] }
  | _ => none }
def CellSortsWrongFalsely : Prop := cellSortsRow.holds Try.pinned (OpenSpec.ofChange cellSortsWrong)

/-- 'stratalaw2.CellRows': WHATEVER THE INPUT: true; the input reads as it did. -/
def cellRowsSpec : ChangeSpec := { name := "cellRows", fn := fun _ => fun
  | [d1, d2] => { results := [.lit (.bool true)], args := [d1, d2] }
  | _ => none }
def cellRowsRow : OpenClaim := { program := "ytcikhlieaoanoaa", sum := "830eedda802ab1ea5be183349705635cbe28f377b0875828876b6045c1cbf83b", func := "strata/stratalaw2.CellRows", spec := "cellRows", inPlace := ["internal/bytealg.Compare"], unfollowed := true, recurses := true, apart := false }
def CellRowsSaid : Prop := cellRowsRow.holds Try.pinned (OpenSpec.ofChange cellRowsSpec)

/-- ITS FALSE NEIGHBOUR: 'it returns false'. Refute it at one input. -/
def cellRowsWrong : ChangeSpec := { name := "cellRows", fn := fun _ => fun
  | [d1, d2] => { results := [.lit (.bool false)], args := [d1, d2] }
  | _ => none }
def CellRowsWrongFalsely : Prop := cellRowsRow.holds Try.pinned (OpenSpec.ofChange cellRowsWrong)

/-- 'stratalaw2.CellKeys': WHATEVER THE INPUT: true; the input reads as it did. -/
def cellKeysSpec : ChangeSpec := { name := "cellKeys", fn := fun _ => fun
  | [d] => { results := [.lit (.bool true)], args := [d] }
  | _ => none }
def cellKeysRow : OpenClaim := { program := "ytcikhlieaoanoaa", sum := "830eedda802ab1ea5be183349705635cbe28f377b0875828876b6045c1cbf83b", func := "strata/stratalaw2.CellKeys", spec := "cellKeys", inPlace := ["internal/bytealg.Compare"], unfollowed := true, recurses := true, apart := false }
def CellKeysSaid : Prop := cellKeysRow.holds Try.pinned (OpenSpec.ofChange cellKeysSpec)

/-- ITS FALSE NEIGHBOUR: 'it returns false'. Refute it at one input. -/
def cellKeysWrong : ChangeSpec := { name := "cellKeys", fn := fun _ => fun
  | [d] => { results := [.lit (.bool false)], args := [d] }
  | _ => none }
def CellKeysWrongFalsely : Prop := cellKeysRow.holds Try.pinned (OpenSpec.ofChange cellKeysWrong)

/-- 'stratalaw2.CellUnpacks': WHATEVER THE INPUT: true; the input reads as it did. -/
def cellUnpacksSpec : ChangeSpec := { name := "cellUnpacks", fn := fun _ => fun
  | [d1, d2] => { results := [.lit (.bool true)], args := [d1, d2] }
  | _ => none }
def cellUnpacksRow : OpenClaim := { program := "ytcikhlieaoanoaa", sum := "830eedda802ab1ea5be183349705635cbe28f377b0875828876b6045c1cbf83b", func := "strata/stratalaw2.CellUnpacks", spec := "cellUnpacks", inPlace := ["internal/bytealg.Compare"], unfollowed := true, recurses := true, apart := false }
def CellUnpacksSaid : Prop := cellUnpacksRow.holds Try.pinned (OpenSpec.ofChange cellUnpacksSpec)

/-- ITS FALSE NEIGHBOUR: 'it returns false'. Refute it at one input. -/
def cellUnpacksWrong : ChangeSpec := { name := "cellUnpacks", fn := fun _ => fun
  | [d1, d2] => { results := [.lit (.bool false)], args := [d1, d2] }
  | _ => none }
def CellUnpacksWrongFalsely : Prop := cellUnpacksRow.holds Try.pinned (OpenSpec.ofChange cellUnpacksWrong)

/-- 'stratalaw2.CellBack': WHATEVER THE INPUT: true; the input reads as it did. -/
def cellBackSpec : ChangeSpec := { name := "cellBack", fn := fun _ => fun
  | [d1, d2, d3, d4] => { results := [.lit (.bool true)], args := [d1, d2, d3, d4] }
  | _ => none }
def cellBackRow : OpenClaim := { program := "ytcikhlieaoanoaa", sum := "830eedda802ab1ea5be183349705635cbe28f377b0875828876b6045c1cbf83b", func := "strata/stratalaw2.CellBack", spec := "cellBack", inPlace := ["internal/bytealg.Compare"], unfollowed := true, recurses := true, apart := false }
def CellBackSaid : Prop := cellBackRow.holds Try.pinned (OpenSpec.ofChange cellBackSpec)

/-- ITS FALSE NEIGHBOUR: 'it returns false'. Refute it at one input. -/
def cellBackWrong : ChangeSpec := { name := "cellBack", fn := fun _ => fun
  | [d1, d2, d3, d4] => { results := [.lit (.bool false)], args := [d1, d2, d3, d4] }
  | _ => none }
def CellBackWrongFalsely : Prop := cellBackRow.holds Try.pinned (OpenSpec.ofChange cellBackWrong)

/-- 'stratalaw2.CellAgain': WHATEVER THE INPUT: true; the input reads as it did. -/
def cellAgainSpec : ChangeSpec := { name := "cellAgain", fn := fun _ => fun
  | [d1, d2, d3, d4, d5] => { results := [.lit (.bool true)], args := [d1, d2, d3, d4, d5] }
  | _ => none }
def cellAgainRow : OpenClaim := { program := "ytcikhlieaoanoaa", sum := "830eedda802ab1ea5be183349705635cbe28f377b0875828876b6045c1cbf83b", func := "strata/stratalaw2.CellAgain", spec := "cellAgain", inPlace := ["internal/bytealg.Compare"], unfollowed := true, recurses := true, apart := false }
def CellAgainSaid : Prop := cellAgainRow.holds Try.pinned (OpenSpec.ofChange cellAgainSpec)

/-- ITS FALSE NEIGHBOUR: 'it returns false'. Refute it at one input. -/
def cellAgainWrong : ChangeSpec := { name := "cellAgain", fn := fun _ => fun
  | [d1, d2, d3, d4, d5] => { results := [.lit (.bool false)], args := [d1, d2, d3, d4, d5] }
  | _ => none }
def CellAgainWrongFalsely : Prop := cellAgainRow.holds Try.pinned (OpenSpec.ofChange cellAgainWrong)

/-- 'stratalaw2.CellLent': WHATEVER THE INPUT: true; the input reads as it did. -/
def cellLentSpec : ChangeSpec := { name := "cellLent", fn := fun _ => fun
  | [d1, d2, d3, d4] => { results := [.lit (.bool true)], args := [d1, d2, d3, d4] }
  | _ => none }
def cellLentRow : OpenClaim := { program := "ytcikhlieaoanoaa", sum := "830eedda802ab1ea5be183349705635cbe28f377b0875828876b6045c1cbf83b", func := "strata/stratalaw2.CellLent", spec := "cellLent", inPlace := ["internal/bytealg.Compare"], unfollowed := true, recurses := true, apart := false }
def CellLentSaid : Prop := cellLentRow.holds Try.pinned (OpenSpec.ofChange cellLentSpec)

/-- ITS FALSE NEIGHBOUR: 'it returns false'. Refute it at one input. -/
def cellLentWrong : ChangeSpec := { name := "cellLent", fn := fun _ => fun
  | [d1, d2, d3, d4] => { results := [.lit (.bool false)], args := [d1, d2, d3, d4] }
  | _ => none }
def CellLentWrongFalsely : Prop := cellLentRow.holds Try.pinned (OpenSpec.ofChange cellLentWrong)

/- THE SECOND FORM. 'bulk': how many values and letters a reading holds, each counted each time it is reached (what is shared counts as often as it is met; a slice's spare places count too). A statement '..UptoSaid' is the law's where the arguments, and the package variables that the reading takes, are together of bulk at most 1048576: NARROWER than '..Said'. Prove '..Said' where nothing that the law and all that it calls make is longer than what came in: it says more and counts as full. Else prove '..UptoSaid'. A law counts once. -/
mutual
def uptoBulk {H : Type} : DataW H → Nat
  | .lit (.string bytes) => bytes.length + 1
  | .lit _ => 1
  | .nil => 1
  | .ptr d => uptoBulk d + 1
  | .slice elems spare => uptoBulkAll elems + uptoBulkAll spare + 1
  | .agg parts => uptoBulkAll parts + 1
  | .iface _ d => uptoBulk d + 1
  | .map entries => uptoBulkEntries entries + 1
  | .held _ => 1
def uptoBulkAll {H : Type} : List (DataW H) → Nat
  | [] => 0
  | d :: r => uptoBulk d + uptoBulkAll r
def uptoBulkEntries {H : Type} : List (Lit × DataW H) → Nat
  | [] => 0
  | x :: r => uptoBulkEntry x + uptoBulkEntries r
def uptoBulkEntry {H : Type} : Lit × DataW H → Nat
  | (.string bytes, d) => bytes.length + uptoBulk d + 1
  | (_, d) => uptoBulk d + 1
 end
def uptoSmall : (H : Type) → List (DataW H) → Bool := fun _ ds => decide (uptoBulkAll ds ≤ 1048576)
def OpenSpec.upto (s : _root_.Go.ChangeSpec) : _root_.Go.OpenSpec := { _root_.Go.OpenSpec.ofChange s with cond := some uptoSmall }

/-- 'stratalaw2.CellParses', WHERE WHAT IT READS IS OF BULK AT MOST 1048576: true; the input reads as it did. -/
def cellParsesUptoRow : OpenClaim := { program := "ytcikhlieaoanoaa", sum := "830eedda802ab1ea5be183349705635cbe28f377b0875828876b6045c1cbf83b", func := "strata/stratalaw2.CellParses", spec := "cellParses", inPlace := ["internal/bytealg.Compare"], unfollowed := true, recurses := true, apart := false, narrowed := true }
def CellParsesUptoSaid : Prop := cellParsesUptoRow.holds Try.pinned (OpenSpec.upto cellParsesSpec)

/-- 'stratalaw2.CellOrder', WHERE WHAT IT READS IS OF BULK AT MOST 1048576: true; the input reads as it did. -/
def cellOrderUptoRow : OpenClaim := { program := "ytcikhlieaoanoaa", sum := "830eedda802ab1ea5be183349705635cbe28f377b0875828876b6045c1cbf83b", func := "strata/stratalaw2.CellOrder", spec := "cellOrder", inPlace := ["internal/bytealg.Compare"], unfollowed := true, recurses := true, apart := false, narrowed := true }
def CellOrderUptoSaid : Prop := cellOrderUptoRow.holds Try.pinned (OpenSpec.upto cellOrderSpec)

/-- 'stratalaw2.CellSorts', WHERE WHAT IT READS IS OF BULK AT MOST 1048576: true; the input reads as it did. -/
def cellSortsUptoRow : OpenClaim := { program := "ytcikhlieaoanoaa", sum := "830eedda802ab1ea5be183349705635cbe28f377b0875828876b6045c1cbf83b", func := "strata/stratalaw2.CellSorts", spec := "cellSorts", inPlace := ["internal/bytealg.Compare"], unfollowed := true, recurses := true, apart := false, narrowed := true }
def CellSortsUptoSaid : Prop := cellSortsUptoRow.holds Try.pinned (OpenSpec.upto cellSortsSpec)

/-- 'stratalaw2.CellRows', WHERE WHAT IT READS IS OF BULK AT MOST 1048576: true; the input reads as it did. -/
def cellRowsUptoRow : OpenClaim := { program := "ytcikhlieaoanoaa", sum := "830eedda802ab1ea5be183349705635cbe28f377b0875828876b6045c1cbf83b", func := "strata/stratalaw2.CellRows", spec := "cellRows", inPlace := ["internal/bytealg.Compare"], unfollowed := true, recurses := true, apart := false, narrowed := true }
def CellRowsUptoSaid : Prop := cellRowsUptoRow.holds Try.pinned (OpenSpec.upto cellRowsSpec)

/-- 'stratalaw2.CellKeys', WHERE WHAT IT READS IS OF BULK AT MOST 1048576: true; the input reads as it did. -/
def cellKeysUptoRow : OpenClaim := { program := "ytcikhlieaoanoaa", sum := "830eedda802ab1ea5be183349705635cbe28f377b0875828876b6045c1cbf83b", func := "strata/stratalaw2.CellKeys", spec := "cellKeys", inPlace := ["internal/bytealg.Compare"], unfollowed := true, recurses := true, apart := false, narrowed := true }
def CellKeysUptoSaid : Prop := cellKeysUptoRow.holds Try.pinned (OpenSpec.upto cellKeysSpec)

/-- 'stratalaw2.CellUnpacks', WHERE WHAT IT READS IS OF BULK AT MOST 1048576: true; the input reads as it did. -/
def cellUnpacksUptoRow : OpenClaim := { program := "ytcikhlieaoanoaa", sum := "830eedda802ab1ea5be183349705635cbe28f377b0875828876b6045c1cbf83b", func := "strata/stratalaw2.CellUnpacks", spec := "cellUnpacks", inPlace := ["internal/bytealg.Compare"], unfollowed := true, recurses := true, apart := false, narrowed := true }
def CellUnpacksUptoSaid : Prop := cellUnpacksUptoRow.holds Try.pinned (OpenSpec.upto cellUnpacksSpec)

/-- 'stratalaw2.CellBack', WHERE WHAT IT READS IS OF BULK AT MOST 1048576: true; the input reads as it did. -/
def cellBackUptoRow : OpenClaim := { program := "ytcikhlieaoanoaa", sum := "830eedda802ab1ea5be183349705635cbe28f377b0875828876b6045c1cbf83b", func := "strata/stratalaw2.CellBack", spec := "cellBack", inPlace := ["internal/bytealg.Compare"], unfollowed := true, recurses := true, apart := false, narrowed := true }
def CellBackUptoSaid : Prop := cellBackUptoRow.holds Try.pinned (OpenSpec.upto cellBackSpec)

/-- 'stratalaw2.CellAgain', WHERE WHAT IT READS IS OF BULK AT MOST 1048576: true; the input reads as it did. -/
def cellAgainUptoRow : OpenClaim := { program := "ytcikhlieaoanoaa", sum := "830eedda802ab1ea5be183349705635cbe28f377b0875828876b6045c1cbf83b", func := "strata/stratalaw2.CellAgain", spec := "cellAgain", inPlace := ["internal/bytealg.Compare"], unfollowed := true, recurses := true, apart := false, narrowed := true }
def CellAgainUptoSaid : Prop := cellAgainUptoRow.holds Try.pinned (OpenSpec.upto cellAgainSpec)

/-- 'stratalaw2.CellLent', WHERE WHAT IT READS IS OF BULK AT MOST 1048576: true; the input reads as it did. -/
def cellLentUptoRow : OpenClaim := { program := "ytcikhlieaoanoaa", sum := "830eedda802ab1ea5be183349705635cbe28f377b0875828876b6045c1cbf83b", func := "strata/stratalaw2.CellLent", spec := "cellLent", inPlace := ["internal/bytealg.Compare"], unfollowed := true, recurses := true, apart := false, narrowed := true }
def CellLentUptoSaid : Prop := cellLentUptoRow.holds Try.pinned (OpenSpec.upto cellLentSpec)

end Rows
end Go.Proofs.Ytcikhlieaoanoaa
