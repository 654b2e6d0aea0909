/-
  RunOne, up to the bulk and with the card.
-/
import Derived.Test.YtfdbcfaeiglbeaaGreatDoorRQ38
import Derived.Test.YtfdbcfaeiglbeaaGreatDoorRQ39
namespace Go.Proofs.YtfdbcfaeiglbeaaGreatDoor.lawROne
open Go.RowKit

theorem x_holds : Rows.RunOneUptoCardSaid := x_of one_any

#print axioms x_holds
end Go.Proofs.YtfdbcfaeiglbeaaGreatDoor.lawROne
