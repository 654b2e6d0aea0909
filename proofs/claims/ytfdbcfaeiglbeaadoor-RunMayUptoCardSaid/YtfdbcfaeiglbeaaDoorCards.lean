/-
  DERIVED. GIVEN WITH THE SEED: THE CARDS: each row of YtfdbcfaeiglbeaaDoorRows.lean that lists a variable, with what it lists TIED to the program's text (the seventh form; the later family's looks); each row that meets fmt, with fmt's text TOLD by the authors' own Lean function (tested against real Go, not proved from fmt's source: count such statements apart). THE CARD IS WHAT COUNTS. Prove the row's statement (the work); the ties are given (YtfdbcfaeiglbeaaDoorTie.lean); close each card by the builder's one call (the guide's Derived/Test/ToyasCard.lean, 'card_holds'). Laid BY PROGRAM, IN A SANDBOX (cutbox-door.mjs). By AI agents, Wed Nov 11 2026. No macro, syntax, notation, axiom, sorry.
-/
import Derived.Test.YtfdbcfaeiglbeaaDoorRows
import GoSem.ClaimSeven
namespace Go.Proofs.YtfdbcfaeiglbeaaDoor
namespace Rows

/-- THE TIED CARD OF 'stratalaw7.RunMay'. -/
def runMayCard : Claim7 := { stood := { row := runMayRow, standIns := [], harness := (true, "6d971aa806226f139e4481579ac93cd78aa5ab2db6a771a4bf8957ba1b3929b8"), looks := false }, kinds := [], alts := [], laidByText := true, laidKinds := [.data], laidTests := true, laidLooks := .later }
def RunMayCardSaid : Prop := Claim7.holds Tryd.pinned (.plain (OpenSpec.ofChange runMaySpec)) runMayCard

/-- THE SECOND FORM's CARD OF 'stratalaw7.RunMay'. -/
def runMayUptoCard : Claim7 := { stood := { row := runMayUptoRow, standIns := [], harness := (true, "6d971aa806226f139e4481579ac93cd78aa5ab2db6a771a4bf8957ba1b3929b8"), looks := false }, kinds := [], alts := [], laidByText := true, laidKinds := [.data], laidTests := true, laidLooks := .later }
def RunMayUptoCardSaid : Prop := Claim7.holds Tryd.pinned (.plain (OpenSpec.upto runMaySpec)) runMayUptoCard
end Rows
end Go.Proofs.YtfdbcfaeiglbeaaDoor
