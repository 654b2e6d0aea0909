/-
  DERIVED. GIVEN WITH THE SEED: THE CARDS: each row of YtmigjipfomfacaaDoorRows.lean that lists a variable, with what it lists TIED to the program's text (the seventh form; the later family's looks); each row that meets fmt, with fmt's text TOLD by the authors' own Lean function (tested against real Go, not proved from fmt's source: count such statements apart). THE CARD IS WHAT COUNTS. Prove the row's statement (the work); the ties are given (YtmigjipfomfacaaDoorTie.lean); close each card by the builder's one call (the guide's Derived/Test/ToyasCard.lean, 'card_holds'). Laid BY PROGRAM, IN A SANDBOX (cutbox-door.mjs). By AI agents, Wed Nov 11 2026. No macro, syntax, notation, axiom, sorry.
-/
import Derived.Test.YtmigjipfomfacaaDoorRows
import GoSem.ClaimSeven
namespace Go.Proofs.YtmigjipfomfacaaDoor
namespace Rows

/-- THE TIED CARD OF 'stratalaw5.BlockBack'. -/
def blockBackCard : Claim7 := { stood := { row := blockBackRow, standIns := [], harness := (true, "0b5d7399a3cede311c158a78cc8fdff84605b28c4fa60fa9872e49e098ac8aa9"), looks := false }, kinds := [], alts := [], laidByText := true, laidKinds := [.data], laidTests := true, laidLooks := .later }
def BlockBackCardSaid : Prop := Claim7.holds Tryd.pinned (.plain (OpenSpec.ofChange blockBackSpec)) blockBackCard

/-- THE TIED CARD OF 'stratalaw5.BlockSeeks'. -/
def blockSeeksCard : Claim7 := { stood := { row := blockSeeksRow, standIns := [], harness := (true, "0b5d7399a3cede311c158a78cc8fdff84605b28c4fa60fa9872e49e098ac8aa9"), looks := false }, kinds := [], alts := [], laidByText := true, laidKinds := [.data], laidTests := true, laidLooks := .later }
def BlockSeeksCardSaid : Prop := Claim7.holds Tryd.pinned (.plain (OpenSpec.ofChange blockSeeksSpec)) blockSeeksCard

/-- THE TIED CARD OF 'stratalaw5.BlockBurst'. -/
def blockBurstCard : Claim7 := { stood := { row := blockBurstRow, standIns := [], harness := (true, "0b5d7399a3cede311c158a78cc8fdff84605b28c4fa60fa9872e49e098ac8aa9"), looks := false }, kinds := [], alts := [], laidByText := true, laidKinds := [.data], laidTests := true, laidLooks := .later }
def BlockBurstCardSaid : Prop := Claim7.holds Tryd.pinned (.plain (OpenSpec.ofChange blockBurstSpec)) blockBurstCard

/-- THE TIED CARD OF 'stratalaw5.BlockLent'. -/
def blockLentCard : Claim7 := { stood := { row := blockLentRow, standIns := [], harness := (true, "0b5d7399a3cede311c158a78cc8fdff84605b28c4fa60fa9872e49e098ac8aa9"), looks := false }, kinds := [], alts := [], laidByText := true, laidKinds := [.data], laidTests := true, laidLooks := .later }
def BlockLentCardSaid : Prop := Claim7.holds Tryd.pinned (.plain (OpenSpec.ofChange blockLentSpec)) blockLentCard

/-- THE TIED CARD OF 'stratalaw5.BlockBuilds'. -/
def blockBuildsCard : Claim7 := { stood := { row := blockBuildsRow, standIns := [], harness := (true, "0b5d7399a3cede311c158a78cc8fdff84605b28c4fa60fa9872e49e098ac8aa9"), looks := false }, kinds := [], alts := [], laidByText := true, laidKinds := [.data], laidTests := true, laidLooks := .later }
def BlockBuildsCardSaid : Prop := Claim7.holds Tryd.pinned (.plain (OpenSpec.ofChange blockBuildsSpec)) blockBuildsCard

/-- THE TIED CARD OF 'stratalaw5.BlockLong'. -/
def blockLongCard : Claim7 := { stood := { row := blockLongRow, standIns := [], harness := (true, "0b5d7399a3cede311c158a78cc8fdff84605b28c4fa60fa9872e49e098ac8aa9"), looks := false }, kinds := [], alts := [], laidByText := true, laidKinds := [.data], laidTests := true, laidLooks := .later }
def BlockLongCardSaid : Prop := Claim7.holds Tryd.pinned (.plain (OpenSpec.ofChange blockLongSpec)) blockLongCard

/-- THE SECOND FORM's CARD OF 'stratalaw5.BlockBack'. -/
def blockBackUptoCard : Claim7 := { stood := { row := blockBackUptoRow, standIns := [], harness := (true, "0b5d7399a3cede311c158a78cc8fdff84605b28c4fa60fa9872e49e098ac8aa9"), looks := false }, kinds := [], alts := [], laidByText := true, laidKinds := [.data], laidTests := true, laidLooks := .later }
def BlockBackUptoCardSaid : Prop := Claim7.holds Tryd.pinned (.plain (OpenSpec.upto blockBackSpec)) blockBackUptoCard

/-- THE SECOND FORM's CARD OF 'stratalaw5.BlockSeeks'. -/
def blockSeeksUptoCard : Claim7 := { stood := { row := blockSeeksUptoRow, standIns := [], harness := (true, "0b5d7399a3cede311c158a78cc8fdff84605b28c4fa60fa9872e49e098ac8aa9"), looks := false }, kinds := [], alts := [], laidByText := true, laidKinds := [.data], laidTests := true, laidLooks := .later }
def BlockSeeksUptoCardSaid : Prop := Claim7.holds Tryd.pinned (.plain (OpenSpec.upto blockSeeksSpec)) blockSeeksUptoCard

/-- THE SECOND FORM's CARD OF 'stratalaw5.BlockBurst'. -/
def blockBurstUptoCard : Claim7 := { stood := { row := blockBurstUptoRow, standIns := [], harness := (true, "0b5d7399a3cede311c158a78cc8fdff84605b28c4fa60fa9872e49e098ac8aa9"), looks := false }, kinds := [], alts := [], laidByText := true, laidKinds := [.data], laidTests := true, laidLooks := .later }
def BlockBurstUptoCardSaid : Prop := Claim7.holds Tryd.pinned (.plain (OpenSpec.upto blockBurstSpec)) blockBurstUptoCard

/-- THE SECOND FORM's CARD OF 'stratalaw5.BlockLent'. -/
def blockLentUptoCard : Claim7 := { stood := { row := blockLentUptoRow, standIns := [], harness := (true, "0b5d7399a3cede311c158a78cc8fdff84605b28c4fa60fa9872e49e098ac8aa9"), looks := false }, kinds := [], alts := [], laidByText := true, laidKinds := [.data], laidTests := true, laidLooks := .later }
def BlockLentUptoCardSaid : Prop := Claim7.holds Tryd.pinned (.plain (OpenSpec.upto blockLentSpec)) blockLentUptoCard

/-- THE SECOND FORM's CARD OF 'stratalaw5.BlockBuilds'. -/
def blockBuildsUptoCard : Claim7 := { stood := { row := blockBuildsUptoRow, standIns := [], harness := (true, "0b5d7399a3cede311c158a78cc8fdff84605b28c4fa60fa9872e49e098ac8aa9"), looks := false }, kinds := [], alts := [], laidByText := true, laidKinds := [.data], laidTests := true, laidLooks := .later }
def BlockBuildsUptoCardSaid : Prop := Claim7.holds Tryd.pinned (.plain (OpenSpec.upto blockBuildsSpec)) blockBuildsUptoCard

/-- THE SECOND FORM's CARD OF 'stratalaw5.BlockLong'. -/
def blockLongUptoCard : Claim7 := { stood := { row := blockLongUptoRow, standIns := [], harness := (true, "0b5d7399a3cede311c158a78cc8fdff84605b28c4fa60fa9872e49e098ac8aa9"), looks := false }, kinds := [], alts := [], laidByText := true, laidKinds := [.data], laidTests := true, laidLooks := .later }
def BlockLongUptoCardSaid : Prop := Claim7.holds Tryd.pinned (.plain (OpenSpec.upto blockLongSpec)) blockLongUptoCard
end Rows
end Go.Proofs.YtmigjipfomfacaaDoor
