/-
  DERIVED. GIVEN WITH THE SEED: THE CARDS: each row of YtmigjipfomfacaaGreatDoorRows.lean that lists a variable, with what it lists TIED to the program's text (the seventh form; the later family's looks); each row that meets fmt, with fmt's text TOLD by the authors' own Lean function (tested against real Go, not proved from fmt's source: count such statements apart). THE CARD IS WHAT COUNTS. Prove the row's statement (the work); the ties are given (YtmigjipfomfacaaGreatDoorTie.lean); close each card by the builder's one call (the guide's Derived/Test/ToyasCard.lean, 'card_holds'). Laid BY PROGRAM, IN A SANDBOX (cutbox-door.mjs). By AI agents, Wed Nov 11 2026. No macro, syntax, notation, axiom, sorry.
-/
import Derived.Test.YtmigjipfomfacaaGreatDoorRows
import GoSem.ClaimSeven
namespace Go.Proofs.YtmigjipfomfacaaGreatDoor
namespace Rows

/-- THE TIED CARD OF 'stratalaw5.BlockReads'. -/
def blockReadsCard : Claim7 := { stood := { row := blockReadsRow, standIns := [], harness := (true, "466da7ce1d597e19d76e8e45ef6ea199d3c836e2e2704f038e6db97488927472"), looks := false }, kinds := [], alts := [], laidByText := true, laidKinds := [.data], laidTests := true, laidLooks := .later }
def BlockReadsCardSaid : Prop := Claim7.holds Tryz.pinned (.plain (OpenSpec.ofChange blockReadsSpec)) blockReadsCard

/-- THE TIED CARD OF 'stratalaw5.BlockAgain'. -/
def blockAgainCard : Claim7 := { stood := { row := blockAgainRow, standIns := [], harness := (true, "466da7ce1d597e19d76e8e45ef6ea199d3c836e2e2704f038e6db97488927472"), looks := false }, kinds := [], alts := [], laidByText := true, laidKinds := [.data], laidTests := true, laidLooks := .later }
def BlockAgainCardSaid : Prop := Claim7.holds Tryz.pinned (.plain (OpenSpec.ofChange blockAgainSpec)) blockAgainCard

/-- THE SECOND FORM's CARD OF 'stratalaw5.BlockReads'. -/
def blockReadsUptoCard : Claim7 := { stood := { row := blockReadsUptoRow, standIns := [], harness := (true, "466da7ce1d597e19d76e8e45ef6ea199d3c836e2e2704f038e6db97488927472"), looks := false }, kinds := [], alts := [], laidByText := true, laidKinds := [.data], laidTests := true, laidLooks := .later }
def BlockReadsUptoCardSaid : Prop := Claim7.holds Tryz.pinned (.plain (OpenSpec.upto blockReadsSpec)) blockReadsUptoCard

/-- THE SECOND FORM's CARD OF 'stratalaw5.BlockAgain'. -/
def blockAgainUptoCard : Claim7 := { stood := { row := blockAgainUptoRow, standIns := [], harness := (true, "466da7ce1d597e19d76e8e45ef6ea199d3c836e2e2704f038e6db97488927472"), looks := false }, kinds := [], alts := [], laidByText := true, laidKinds := [.data], laidTests := true, laidLooks := .later }
def BlockAgainUptoCardSaid : Prop := Claim7.holds Tryz.pinned (.plain (OpenSpec.upto blockAgainSpec)) blockAgainUptoCard
end Rows
end Go.Proofs.YtmigjipfomfacaaGreatDoor
