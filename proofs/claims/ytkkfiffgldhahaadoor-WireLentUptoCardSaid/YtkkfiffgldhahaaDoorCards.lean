/-
  DERIVED. GIVEN WITH THE SEED: THE CARDS: each row of YtkkfiffgldhahaaDoorRows.lean that lists a variable, with what it lists TIED to the program's text (the seventh form; the later family's looks); each row that meets fmt, with fmt's text TOLD by the authors' own Lean function (tested against real Go, not proved from fmt's source: count such statements apart). THE CARD IS WHAT COUNTS. Prove the row's statement (the work); the ties are given (YtkkfiffgldhahaaDoorTie.lean); close each card by the builder's one call (the guide's Derived/Test/ToyasCard.lean, 'card_holds'). Laid BY PROGRAM, IN A SANDBOX (cutbox-door.mjs). By AI agents, Wed Nov 11 2026. No macro, syntax, notation, axiom, sorry.
-/
import Derived.Test.YtkkfiffgldhahaaDoorRows
import GoSem.ClaimSeven
namespace Go.Proofs.YtkkfiffgldhahaaDoor
namespace Rows

/-- THE TIED CARD OF 'stratalaw1.WireTells'. -/
def wireTellsCard : Claim7 := { stood := { row := wireTellsRow, standIns := [], harness := (true, "40892e2a4c36930928b07411700f3b492a7c74392fd301fb31dfe84c71692819"), looks := false }, kinds := [], alts := [], laidByText := true, laidKinds := [.data], laidTests := true, laidLooks := .later }
def WireTellsCardSaid : Prop := Claim7.holds Tryd.pinned (.plain (OpenSpec.ofChange wireTellsSpec)) wireTellsCard

/-- THE TIED CARD OF 'stratalaw1.WireBursts'. -/
def wireBurstsCard : Claim7 := { stood := { row := wireBurstsRow, standIns := [], harness := (true, "40892e2a4c36930928b07411700f3b492a7c74392fd301fb31dfe84c71692819"), looks := false }, kinds := [], alts := [], laidByText := true, laidKinds := [.data], laidTests := true, laidLooks := .later }
def WireBurstsCardSaid : Prop := Claim7.holds Tryd.pinned (.plain (OpenSpec.ofChange wireBurstsSpec)) wireBurstsCard

/-- THE TIED CARD OF 'stratalaw1.WireSums'. -/
def wireSumsCard : Claim7 := { stood := { row := wireSumsRow, standIns := [], harness := (true, "40892e2a4c36930928b07411700f3b492a7c74392fd301fb31dfe84c71692819"), looks := false }, kinds := [], alts := [], laidByText := true, laidKinds := [.data], laidTests := true, laidLooks := .later }
def WireSumsCardSaid : Prop := Claim7.holds Tryd.pinned (.plain (OpenSpec.ofChange wireSumsSpec)) wireSumsCard

/-- THE TIED CARD OF 'stratalaw1.WireMany'. -/
def wireManyCard : Claim7 := { stood := { row := wireManyRow, standIns := [], harness := (true, "40892e2a4c36930928b07411700f3b492a7c74392fd301fb31dfe84c71692819"), looks := false }, kinds := [], alts := [], laidByText := true, laidKinds := [.data], laidTests := true, laidLooks := .later }
def WireManyCardSaid : Prop := Claim7.holds Tryd.pinned (.plain (OpenSpec.ofChange wireManySpec)) wireManyCard

/-- THE TIED CARD OF 'stratalaw1.WireSorts'. -/
def wireSortsCard : Claim7 := { stood := { row := wireSortsRow, standIns := [], harness := (true, "40892e2a4c36930928b07411700f3b492a7c74392fd301fb31dfe84c71692819"), looks := false }, kinds := [], alts := [], laidByText := true, laidKinds := [.data], laidTests := true, laidLooks := .later }
def WireSortsCardSaid : Prop := Claim7.holds Tryd.pinned (.plain (OpenSpec.ofChange wireSortsSpec)) wireSortsCard

/-- THE TIED CARD OF 'stratalaw1.WireOwn'. -/
def wireOwnCard : Claim7 := { stood := { row := wireOwnRow, standIns := [], harness := (true, "40892e2a4c36930928b07411700f3b492a7c74392fd301fb31dfe84c71692819"), looks := false }, kinds := [], alts := [], laidByText := true, laidKinds := [.data], laidTests := true, laidLooks := .later }
def WireOwnCardSaid : Prop := Claim7.holds Tryd.pinned (.plain (OpenSpec.ofChange wireOwnSpec)) wireOwnCard

/-- THE TIED CARD OF 'stratalaw1.WireLent'. -/
def wireLentCard : Claim7 := { stood := { row := wireLentRow, standIns := [], harness := (true, "40892e2a4c36930928b07411700f3b492a7c74392fd301fb31dfe84c71692819"), looks := false }, kinds := [], alts := [], laidByText := true, laidKinds := [.data], laidTests := true, laidLooks := .later }
def WireLentCardSaid : Prop := Claim7.holds Tryd.pinned (.plain (OpenSpec.ofChange wireLentSpec)) wireLentCard

/-- THE TIED CARD OF 'stratalaw1.WireNumbers'. -/
def wireNumbersCard : Claim7 := { stood := { row := wireNumbersRow, standIns := [], harness := (true, "40892e2a4c36930928b07411700f3b492a7c74392fd301fb31dfe84c71692819"), looks := false }, kinds := [], alts := [], laidByText := true, laidKinds := [.data], laidTests := true, laidLooks := .later }
def WireNumbersCardSaid : Prop := Claim7.holds Tryd.pinned (.plain (OpenSpec.ofChange wireNumbersSpec)) wireNumbersCard

/-- THE TIED CARD OF 'stratalaw1.WireOrdered'. -/
def wireOrderedCard : Claim7 := { stood := { row := wireOrderedRow, standIns := [], harness := (true, "40892e2a4c36930928b07411700f3b492a7c74392fd301fb31dfe84c71692819"), looks := false }, kinds := [], alts := [], laidByText := true, laidKinds := [.data], laidTests := true, laidLooks := .later }
def WireOrderedCardSaid : Prop := Claim7.holds Tryd.pinned (.plain (OpenSpec.ofChange wireOrderedSpec)) wireOrderedCard

/-- THE TIED CARD OF 'stratalaw1.WireFrames'. -/
def wireFramesCard : Claim7 := { stood := { row := wireFramesRow, standIns := [], harness := (true, "40892e2a4c36930928b07411700f3b492a7c74392fd301fb31dfe84c71692819"), looks := false }, kinds := [], alts := [], laidByText := true, laidKinds := [.data], laidTests := true, laidLooks := .later }
def WireFramesCardSaid : Prop := Claim7.holds Tryd.pinned (.plain (OpenSpec.ofChange wireFramesSpec)) wireFramesCard

/-- THE TIED CARD OF 'stratalaw1.WirePlays'. -/
def wirePlaysCard : Claim7 := { stood := { row := wirePlaysRow, standIns := [], harness := (true, "40892e2a4c36930928b07411700f3b492a7c74392fd301fb31dfe84c71692819"), looks := false }, kinds := [], alts := [], laidByText := true, laidKinds := [.data], laidTests := true, laidLooks := .later }
def WirePlaysCardSaid : Prop := Claim7.holds Tryd.pinned (.plain (OpenSpec.ofChange wirePlaysSpec)) wirePlaysCard

/-- THE TIED CARD OF 'stratalaw1.WireBack'. -/
def wireBackCard : Claim7 := { stood := { row := wireBackRow, standIns := [], harness := (true, "40892e2a4c36930928b07411700f3b492a7c74392fd301fb31dfe84c71692819"), looks := false }, kinds := [], alts := [], laidByText := true, laidKinds := [.data], laidTests := true, laidLooks := .later }
def WireBackCardSaid : Prop := Claim7.holds Tryd.pinned (.plain (OpenSpec.ofChange wireBackSpec)) wireBackCard

/-- THE TIED CARD OF 'stratalaw1.WireOneWay'. -/
def wireOneWayCard : Claim7 := { stood := { row := wireOneWayRow, standIns := [], harness := (true, "40892e2a4c36930928b07411700f3b492a7c74392fd301fb31dfe84c71692819"), looks := false }, kinds := [], alts := [], laidByText := true, laidKinds := [.data], laidTests := true, laidLooks := .later }
def WireOneWayCardSaid : Prop := Claim7.holds Tryd.pinned (.plain (OpenSpec.ofChange wireOneWaySpec)) wireOneWayCard

/-- THE TIED CARD OF 'stratalaw1.WireCuts'. -/
def wireCutsCard : Claim7 := { stood := { row := wireCutsRow, standIns := [], harness := (true, "40892e2a4c36930928b07411700f3b492a7c74392fd301fb31dfe84c71692819"), looks := false }, kinds := [], alts := [], laidByText := true, laidKinds := [.data], laidTests := true, laidLooks := .later }
def WireCutsCardSaid : Prop := Claim7.holds Tryd.pinned (.plain (OpenSpec.ofChange wireCutsSpec)) wireCutsCard

/-- THE TIED CARD OF 'stratalaw1.WireAgain'. -/
def wireAgainCard : Claim7 := { stood := { row := wireAgainRow, standIns := [], harness := (true, "40892e2a4c36930928b07411700f3b492a7c74392fd301fb31dfe84c71692819"), looks := false }, kinds := [], alts := [], laidByText := true, laidKinds := [.data], laidTests := true, laidLooks := .later }
def WireAgainCardSaid : Prop := Claim7.holds Tryd.pinned (.plain (OpenSpec.ofChange wireAgainSpec)) wireAgainCard

/-- THE SECOND FORM's CARD OF 'stratalaw1.WireTells'. -/
def wireTellsUptoCard : Claim7 := { stood := { row := wireTellsUptoRow, standIns := [], harness := (true, "40892e2a4c36930928b07411700f3b492a7c74392fd301fb31dfe84c71692819"), looks := false }, kinds := [], alts := [], laidByText := true, laidKinds := [.data], laidTests := true, laidLooks := .later }
def WireTellsUptoCardSaid : Prop := Claim7.holds Tryd.pinned (.plain (OpenSpec.upto wireTellsSpec)) wireTellsUptoCard

/-- THE SECOND FORM's CARD OF 'stratalaw1.WireBursts'. -/
def wireBurstsUptoCard : Claim7 := { stood := { row := wireBurstsUptoRow, standIns := [], harness := (true, "40892e2a4c36930928b07411700f3b492a7c74392fd301fb31dfe84c71692819"), looks := false }, kinds := [], alts := [], laidByText := true, laidKinds := [.data], laidTests := true, laidLooks := .later }
def WireBurstsUptoCardSaid : Prop := Claim7.holds Tryd.pinned (.plain (OpenSpec.upto wireBurstsSpec)) wireBurstsUptoCard

/-- THE SECOND FORM's CARD OF 'stratalaw1.WireSums'. -/
def wireSumsUptoCard : Claim7 := { stood := { row := wireSumsUptoRow, standIns := [], harness := (true, "40892e2a4c36930928b07411700f3b492a7c74392fd301fb31dfe84c71692819"), looks := false }, kinds := [], alts := [], laidByText := true, laidKinds := [.data], laidTests := true, laidLooks := .later }
def WireSumsUptoCardSaid : Prop := Claim7.holds Tryd.pinned (.plain (OpenSpec.upto wireSumsSpec)) wireSumsUptoCard

/-- THE SECOND FORM's CARD OF 'stratalaw1.WireMany'. -/
def wireManyUptoCard : Claim7 := { stood := { row := wireManyUptoRow, standIns := [], harness := (true, "40892e2a4c36930928b07411700f3b492a7c74392fd301fb31dfe84c71692819"), looks := false }, kinds := [], alts := [], laidByText := true, laidKinds := [.data], laidTests := true, laidLooks := .later }
def WireManyUptoCardSaid : Prop := Claim7.holds Tryd.pinned (.plain (OpenSpec.upto wireManySpec)) wireManyUptoCard

/-- THE SECOND FORM's CARD OF 'stratalaw1.WireSorts'. -/
def wireSortsUptoCard : Claim7 := { stood := { row := wireSortsUptoRow, standIns := [], harness := (true, "40892e2a4c36930928b07411700f3b492a7c74392fd301fb31dfe84c71692819"), looks := false }, kinds := [], alts := [], laidByText := true, laidKinds := [.data], laidTests := true, laidLooks := .later }
def WireSortsUptoCardSaid : Prop := Claim7.holds Tryd.pinned (.plain (OpenSpec.upto wireSortsSpec)) wireSortsUptoCard

/-- THE SECOND FORM's CARD OF 'stratalaw1.WireOwn'. -/
def wireOwnUptoCard : Claim7 := { stood := { row := wireOwnUptoRow, standIns := [], harness := (true, "40892e2a4c36930928b07411700f3b492a7c74392fd301fb31dfe84c71692819"), looks := false }, kinds := [], alts := [], laidByText := true, laidKinds := [.data], laidTests := true, laidLooks := .later }
def WireOwnUptoCardSaid : Prop := Claim7.holds Tryd.pinned (.plain (OpenSpec.upto wireOwnSpec)) wireOwnUptoCard

/-- THE SECOND FORM's CARD OF 'stratalaw1.WireLent'. -/
def wireLentUptoCard : Claim7 := { stood := { row := wireLentUptoRow, standIns := [], harness := (true, "40892e2a4c36930928b07411700f3b492a7c74392fd301fb31dfe84c71692819"), looks := false }, kinds := [], alts := [], laidByText := true, laidKinds := [.data], laidTests := true, laidLooks := .later }
def WireLentUptoCardSaid : Prop := Claim7.holds Tryd.pinned (.plain (OpenSpec.upto wireLentSpec)) wireLentUptoCard

/-- THE SECOND FORM's CARD OF 'stratalaw1.WireNumbers'. -/
def wireNumbersUptoCard : Claim7 := { stood := { row := wireNumbersUptoRow, standIns := [], harness := (true, "40892e2a4c36930928b07411700f3b492a7c74392fd301fb31dfe84c71692819"), looks := false }, kinds := [], alts := [], laidByText := true, laidKinds := [.data], laidTests := true, laidLooks := .later }
def WireNumbersUptoCardSaid : Prop := Claim7.holds Tryd.pinned (.plain (OpenSpec.upto wireNumbersSpec)) wireNumbersUptoCard

/-- THE SECOND FORM's CARD OF 'stratalaw1.WireOrdered'. -/
def wireOrderedUptoCard : Claim7 := { stood := { row := wireOrderedUptoRow, standIns := [], harness := (true, "40892e2a4c36930928b07411700f3b492a7c74392fd301fb31dfe84c71692819"), looks := false }, kinds := [], alts := [], laidByText := true, laidKinds := [.data], laidTests := true, laidLooks := .later }
def WireOrderedUptoCardSaid : Prop := Claim7.holds Tryd.pinned (.plain (OpenSpec.upto wireOrderedSpec)) wireOrderedUptoCard

/-- THE SECOND FORM's CARD OF 'stratalaw1.WireFrames'. -/
def wireFramesUptoCard : Claim7 := { stood := { row := wireFramesUptoRow, standIns := [], harness := (true, "40892e2a4c36930928b07411700f3b492a7c74392fd301fb31dfe84c71692819"), looks := false }, kinds := [], alts := [], laidByText := true, laidKinds := [.data], laidTests := true, laidLooks := .later }
def WireFramesUptoCardSaid : Prop := Claim7.holds Tryd.pinned (.plain (OpenSpec.upto wireFramesSpec)) wireFramesUptoCard

/-- THE SECOND FORM's CARD OF 'stratalaw1.WirePlays'. -/
def wirePlaysUptoCard : Claim7 := { stood := { row := wirePlaysUptoRow, standIns := [], harness := (true, "40892e2a4c36930928b07411700f3b492a7c74392fd301fb31dfe84c71692819"), looks := false }, kinds := [], alts := [], laidByText := true, laidKinds := [.data], laidTests := true, laidLooks := .later }
def WirePlaysUptoCardSaid : Prop := Claim7.holds Tryd.pinned (.plain (OpenSpec.upto wirePlaysSpec)) wirePlaysUptoCard

/-- THE SECOND FORM's CARD OF 'stratalaw1.WireBack'. -/
def wireBackUptoCard : Claim7 := { stood := { row := wireBackUptoRow, standIns := [], harness := (true, "40892e2a4c36930928b07411700f3b492a7c74392fd301fb31dfe84c71692819"), looks := false }, kinds := [], alts := [], laidByText := true, laidKinds := [.data], laidTests := true, laidLooks := .later }
def WireBackUptoCardSaid : Prop := Claim7.holds Tryd.pinned (.plain (OpenSpec.upto wireBackSpec)) wireBackUptoCard

/-- THE SECOND FORM's CARD OF 'stratalaw1.WireOneWay'. -/
def wireOneWayUptoCard : Claim7 := { stood := { row := wireOneWayUptoRow, standIns := [], harness := (true, "40892e2a4c36930928b07411700f3b492a7c74392fd301fb31dfe84c71692819"), looks := false }, kinds := [], alts := [], laidByText := true, laidKinds := [.data], laidTests := true, laidLooks := .later }
def WireOneWayUptoCardSaid : Prop := Claim7.holds Tryd.pinned (.plain (OpenSpec.upto wireOneWaySpec)) wireOneWayUptoCard

/-- THE SECOND FORM's CARD OF 'stratalaw1.WireCuts'. -/
def wireCutsUptoCard : Claim7 := { stood := { row := wireCutsUptoRow, standIns := [], harness := (true, "40892e2a4c36930928b07411700f3b492a7c74392fd301fb31dfe84c71692819"), looks := false }, kinds := [], alts := [], laidByText := true, laidKinds := [.data], laidTests := true, laidLooks := .later }
def WireCutsUptoCardSaid : Prop := Claim7.holds Tryd.pinned (.plain (OpenSpec.upto wireCutsSpec)) wireCutsUptoCard

/-- THE SECOND FORM's CARD OF 'stratalaw1.WireAgain'. -/
def wireAgainUptoCard : Claim7 := { stood := { row := wireAgainUptoRow, standIns := [], harness := (true, "40892e2a4c36930928b07411700f3b492a7c74392fd301fb31dfe84c71692819"), looks := false }, kinds := [], alts := [], laidByText := true, laidKinds := [.data], laidTests := true, laidLooks := .later }
def WireAgainUptoCardSaid : Prop := Claim7.holds Tryd.pinned (.plain (OpenSpec.upto wireAgainSpec)) wireAgainUptoCard
end Rows
end Go.Proofs.YtkkfiffgldhahaaDoor
