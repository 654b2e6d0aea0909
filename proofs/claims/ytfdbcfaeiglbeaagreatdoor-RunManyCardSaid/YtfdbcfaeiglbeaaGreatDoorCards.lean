/-
  DERIVED. GIVEN WITH THE SEED: THE CARDS: each row of YtfdbcfaeiglbeaaGreatDoorRows.lean that lists a variable, with what it lists TIED to the program's text (the seventh form; the later family's looks); each row that meets fmt, with fmt's text TOLD by the authors' own Lean function (tested against real Go, not proved from fmt's source: count such statements apart). THE CARD IS WHAT COUNTS. Prove the row's statement (the work); the ties are given (YtfdbcfaeiglbeaaGreatDoorTie.lean); close each card by the builder's one call (the guide's Derived/Test/ToyasCard.lean, 'card_holds'). Laid BY PROGRAM, IN A SANDBOX (cutbox-door.mjs). By AI agents, Wed Nov 11 2026. No macro, syntax, notation, axiom, sorry.
-/
import Derived.Test.YtfdbcfaeiglbeaaGreatDoorRows
import GoSem.ClaimSeven
namespace Go.Proofs.YtfdbcfaeiglbeaaGreatDoor
namespace Rows

/-- THE TIED CARD OF 'stratalaw7.RunAgain'. -/
def runAgainCard : Claim7 := { stood := { row := runAgainRow, standIns := [], harness := (true, "4b7045e2bb1a46d1496962ea0670960edc7f3d433aa29c1f605b16cd37001a62"), looks := false }, kinds := [], alts := [], laidByText := true, laidKinds := [.data], laidTests := true, laidLooks := .later }
def RunAgainCardSaid : Prop := Claim7.holds Tryz.pinned (.plain (OpenSpec.ofChange runAgainSpec)) runAgainCard

/-- THE TIED CARD OF 'stratalaw7.RunMany'. -/
def runManyCard : Claim7 := { stood := { row := runManyRow, standIns := [], harness := (true, "4b7045e2bb1a46d1496962ea0670960edc7f3d433aa29c1f605b16cd37001a62"), looks := false }, kinds := [], alts := [], laidByText := true, laidKinds := [.data], laidTests := true, laidLooks := .later }
def RunManyCardSaid : Prop := Claim7.holds Tryz.pinned (.plain (OpenSpec.ofChange runManySpec)) runManyCard

/-- THE TIED CARD OF 'stratalaw7.RunSeeks'. -/
def runSeeksCard : Claim7 := { stood := { row := runSeeksRow, standIns := [], harness := (true, "4b7045e2bb1a46d1496962ea0670960edc7f3d433aa29c1f605b16cd37001a62"), looks := false }, kinds := [], alts := [], laidByText := true, laidKinds := [.data], laidTests := true, laidLooks := .later }
def RunSeeksCardSaid : Prop := Claim7.holds Tryz.pinned (.plain (OpenSpec.ofChange runSeeksSpec)) runSeeksCard

/-- THE TIED CARD OF 'stratalaw7.RunWrites'. -/
def runWritesCard : Claim7 := { stood := { row := runWritesRow, standIns := [], harness := (true, "4b7045e2bb1a46d1496962ea0670960edc7f3d433aa29c1f605b16cd37001a62"), looks := false }, kinds := [], alts := [], laidByText := true, laidKinds := [.data], laidTests := true, laidLooks := .later }
def RunWritesCardSaid : Prop := Claim7.holds Tryz.pinned (.plain (OpenSpec.ofChange runWritesSpec)) runWritesCard

/-- THE TIED CARD OF 'stratalaw7.RunOne'. -/
def runOneCard : Claim7 := { stood := { row := runOneRow, standIns := [], harness := (true, "4b7045e2bb1a46d1496962ea0670960edc7f3d433aa29c1f605b16cd37001a62"), looks := false }, kinds := [], alts := [], laidByText := true, laidKinds := [.data], laidTests := true, laidLooks := .later }
def RunOneCardSaid : Prop := Claim7.holds Tryz.pinned (.plain (OpenSpec.ofChange runOneSpec)) runOneCard

/-- THE TIED CARD OF 'stratalaw7.RunLent'. -/
def runLentCard : Claim7 := { stood := { row := runLentRow, standIns := [], harness := (true, "4b7045e2bb1a46d1496962ea0670960edc7f3d433aa29c1f605b16cd37001a62"), looks := false }, kinds := [], alts := [], laidByText := true, laidKinds := [.data], laidTests := true, laidLooks := .later }
def RunLentCardSaid : Prop := Claim7.holds Tryz.pinned (.plain (OpenSpec.ofChange runLentSpec)) runLentCard

/-- THE TIED CARD OF 'stratalaw7.RunTells'. -/
def runTellsCard : Claim7 := { stood := { row := runTellsRow, standIns := [], harness := (true, "4b7045e2bb1a46d1496962ea0670960edc7f3d433aa29c1f605b16cd37001a62"), looks := false }, kinds := [], alts := [], laidByText := true, laidKinds := [.data], laidTests := true, laidLooks := .later }
def RunTellsCardSaid : Prop := Claim7.holds Tryz.pinned (.plain (OpenSpec.ofChange runTellsSpec)) runTellsCard

/-- THE TIED CARD OF 'stratalaw7.RunBursts'. -/
def runBurstsCard : Claim7 := { stood := { row := runBurstsRow, standIns := [], harness := (true, "4b7045e2bb1a46d1496962ea0670960edc7f3d433aa29c1f605b16cd37001a62"), looks := false }, kinds := [], alts := [], laidByText := true, laidKinds := [.data], laidTests := true, laidLooks := .later }
def RunBurstsCardSaid : Prop := Claim7.holds Tryz.pinned (.plain (OpenSpec.ofChange runBurstsSpec)) runBurstsCard

/-- THE TIED CARD OF 'stratalaw7.RunOwn'. -/
def runOwnCard : Claim7 := { stood := { row := runOwnRow, standIns := [], harness := (true, "4b7045e2bb1a46d1496962ea0670960edc7f3d433aa29c1f605b16cd37001a62"), looks := false }, kinds := [], alts := [], laidByText := true, laidKinds := [.data], laidTests := true, laidLooks := .later }
def RunOwnCardSaid : Prop := Claim7.holds Tryz.pinned (.plain (OpenSpec.ofChange runOwnSpec)) runOwnCard

/-- THE TIED CARD OF 'stratalaw7.RunBack'. -/
def runBackCard : Claim7 := { stood := { row := runBackRow, standIns := [], harness := (true, "4b7045e2bb1a46d1496962ea0670960edc7f3d433aa29c1f605b16cd37001a62"), looks := false }, kinds := [], alts := [], laidByText := true, laidKinds := [.data], laidTests := true, laidLooks := .later }
def RunBackCardSaid : Prop := Claim7.holds Tryz.pinned (.plain (OpenSpec.ofChange runBackSpec)) runBackCard

/-- THE TIED CARD OF 'stratalaw7.RunOpens'. -/
def runOpensCard : Claim7 := { stood := { row := runOpensRow, standIns := [], harness := (true, "4b7045e2bb1a46d1496962ea0670960edc7f3d433aa29c1f605b16cd37001a62"), looks := false }, kinds := [], alts := [], laidByText := true, laidKinds := [.data], laidTests := true, laidLooks := .later }
def RunOpensCardSaid : Prop := Claim7.holds Tryz.pinned (.plain (OpenSpec.ofChange runOpensSpec)) runOpensCard

/-- THE TIED CARD OF 'stratalaw7.RunPlays'. -/
def runPlaysCard : Claim7 := { stood := { row := runPlaysRow, standIns := [], harness := (true, "4b7045e2bb1a46d1496962ea0670960edc7f3d433aa29c1f605b16cd37001a62"), looks := false }, kinds := [], alts := [], laidByText := true, laidKinds := [.data], laidTests := true, laidLooks := .later }
def RunPlaysCardSaid : Prop := Claim7.holds Tryz.pinned (.plain (OpenSpec.ofChange runPlaysSpec)) runPlaysCard

/-- THE SECOND FORM's CARD OF 'stratalaw7.RunAgain'. -/
def runAgainUptoCard : Claim7 := { stood := { row := runAgainUptoRow, standIns := [], harness := (true, "4b7045e2bb1a46d1496962ea0670960edc7f3d433aa29c1f605b16cd37001a62"), looks := false }, kinds := [], alts := [], laidByText := true, laidKinds := [.data], laidTests := true, laidLooks := .later }
def RunAgainUptoCardSaid : Prop := Claim7.holds Tryz.pinned (.plain (OpenSpec.upto runAgainSpec)) runAgainUptoCard

/-- THE SECOND FORM's CARD OF 'stratalaw7.RunMany'. -/
def runManyUptoCard : Claim7 := { stood := { row := runManyUptoRow, standIns := [], harness := (true, "4b7045e2bb1a46d1496962ea0670960edc7f3d433aa29c1f605b16cd37001a62"), looks := false }, kinds := [], alts := [], laidByText := true, laidKinds := [.data], laidTests := true, laidLooks := .later }
def RunManyUptoCardSaid : Prop := Claim7.holds Tryz.pinned (.plain (OpenSpec.upto runManySpec)) runManyUptoCard

/-- THE SECOND FORM's CARD OF 'stratalaw7.RunSeeks'. -/
def runSeeksUptoCard : Claim7 := { stood := { row := runSeeksUptoRow, standIns := [], harness := (true, "4b7045e2bb1a46d1496962ea0670960edc7f3d433aa29c1f605b16cd37001a62"), looks := false }, kinds := [], alts := [], laidByText := true, laidKinds := [.data], laidTests := true, laidLooks := .later }
def RunSeeksUptoCardSaid : Prop := Claim7.holds Tryz.pinned (.plain (OpenSpec.upto runSeeksSpec)) runSeeksUptoCard

/-- THE SECOND FORM's CARD OF 'stratalaw7.RunWrites'. -/
def runWritesUptoCard : Claim7 := { stood := { row := runWritesUptoRow, standIns := [], harness := (true, "4b7045e2bb1a46d1496962ea0670960edc7f3d433aa29c1f605b16cd37001a62"), looks := false }, kinds := [], alts := [], laidByText := true, laidKinds := [.data], laidTests := true, laidLooks := .later }
def RunWritesUptoCardSaid : Prop := Claim7.holds Tryz.pinned (.plain (OpenSpec.upto runWritesSpec)) runWritesUptoCard

/-- THE SECOND FORM's CARD OF 'stratalaw7.RunOne'. -/
def runOneUptoCard : Claim7 := { stood := { row := runOneUptoRow, standIns := [], harness := (true, "4b7045e2bb1a46d1496962ea0670960edc7f3d433aa29c1f605b16cd37001a62"), looks := false }, kinds := [], alts := [], laidByText := true, laidKinds := [.data], laidTests := true, laidLooks := .later }
def RunOneUptoCardSaid : Prop := Claim7.holds Tryz.pinned (.plain (OpenSpec.upto runOneSpec)) runOneUptoCard

/-- THE SECOND FORM's CARD OF 'stratalaw7.RunLent'. -/
def runLentUptoCard : Claim7 := { stood := { row := runLentUptoRow, standIns := [], harness := (true, "4b7045e2bb1a46d1496962ea0670960edc7f3d433aa29c1f605b16cd37001a62"), looks := false }, kinds := [], alts := [], laidByText := true, laidKinds := [.data], laidTests := true, laidLooks := .later }
def RunLentUptoCardSaid : Prop := Claim7.holds Tryz.pinned (.plain (OpenSpec.upto runLentSpec)) runLentUptoCard

/-- THE SECOND FORM's CARD OF 'stratalaw7.RunTells'. -/
def runTellsUptoCard : Claim7 := { stood := { row := runTellsUptoRow, standIns := [], harness := (true, "4b7045e2bb1a46d1496962ea0670960edc7f3d433aa29c1f605b16cd37001a62"), looks := false }, kinds := [], alts := [], laidByText := true, laidKinds := [.data], laidTests := true, laidLooks := .later }
def RunTellsUptoCardSaid : Prop := Claim7.holds Tryz.pinned (.plain (OpenSpec.upto runTellsSpec)) runTellsUptoCard

/-- THE SECOND FORM's CARD OF 'stratalaw7.RunBursts'. -/
def runBurstsUptoCard : Claim7 := { stood := { row := runBurstsUptoRow, standIns := [], harness := (true, "4b7045e2bb1a46d1496962ea0670960edc7f3d433aa29c1f605b16cd37001a62"), looks := false }, kinds := [], alts := [], laidByText := true, laidKinds := [.data], laidTests := true, laidLooks := .later }
def RunBurstsUptoCardSaid : Prop := Claim7.holds Tryz.pinned (.plain (OpenSpec.upto runBurstsSpec)) runBurstsUptoCard

/-- THE SECOND FORM's CARD OF 'stratalaw7.RunOwn'. -/
def runOwnUptoCard : Claim7 := { stood := { row := runOwnUptoRow, standIns := [], harness := (true, "4b7045e2bb1a46d1496962ea0670960edc7f3d433aa29c1f605b16cd37001a62"), looks := false }, kinds := [], alts := [], laidByText := true, laidKinds := [.data], laidTests := true, laidLooks := .later }
def RunOwnUptoCardSaid : Prop := Claim7.holds Tryz.pinned (.plain (OpenSpec.upto runOwnSpec)) runOwnUptoCard

/-- THE SECOND FORM's CARD OF 'stratalaw7.RunBack'. -/
def runBackUptoCard : Claim7 := { stood := { row := runBackUptoRow, standIns := [], harness := (true, "4b7045e2bb1a46d1496962ea0670960edc7f3d433aa29c1f605b16cd37001a62"), looks := false }, kinds := [], alts := [], laidByText := true, laidKinds := [.data], laidTests := true, laidLooks := .later }
def RunBackUptoCardSaid : Prop := Claim7.holds Tryz.pinned (.plain (OpenSpec.upto runBackSpec)) runBackUptoCard

/-- THE SECOND FORM's CARD OF 'stratalaw7.RunOpens'. -/
def runOpensUptoCard : Claim7 := { stood := { row := runOpensUptoRow, standIns := [], harness := (true, "4b7045e2bb1a46d1496962ea0670960edc7f3d433aa29c1f605b16cd37001a62"), looks := false }, kinds := [], alts := [], laidByText := true, laidKinds := [.data], laidTests := true, laidLooks := .later }
def RunOpensUptoCardSaid : Prop := Claim7.holds Tryz.pinned (.plain (OpenSpec.upto runOpensSpec)) runOpensUptoCard

/-- THE SECOND FORM's CARD OF 'stratalaw7.RunPlays'. -/
def runPlaysUptoCard : Claim7 := { stood := { row := runPlaysUptoRow, standIns := [], harness := (true, "4b7045e2bb1a46d1496962ea0670960edc7f3d433aa29c1f605b16cd37001a62"), looks := false }, kinds := [], alts := [], laidByText := true, laidKinds := [.data], laidTests := true, laidLooks := .later }
def RunPlaysUptoCardSaid : Prop := Claim7.holds Tryz.pinned (.plain (OpenSpec.upto runPlaysSpec)) runPlaysUptoCard
end Rows
end Go.Proofs.YtfdbcfaeiglbeaaGreatDoor
