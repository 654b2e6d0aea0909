/-
 BlockQ1.
-/
import Derived.Test.YtfdbcfaeiglbeaaGreatDoorRZ5
import Derived.Test.YtfdbcfaeiglbeaaGreatDoorRZ12
import Derived.Deep.DeepHandedRow
import Derived.Lib.AppendZerosOnto
import Derived.Lib.LaidTab
import Derived.Lib.SlBytesConst
import Derived.Lib.SliceRun
import Derived.Lib.Walk
import Derived.OpenShut
import Derived.StillTailTactics
import Derived.Test.YtfdbcfaeiglbeaaGreatDoorCards
import Derived.Test.YtfdbcfaeiglbeaaGreatDoorTie
namespace Go.Proofs.YtfdbcfaeiglbeaaGreatDoor
open Go.RowKit
def REntP (b:List UInt8) (a:Nat) (key:List UInt8) (w:World) (r:Ending) (z:World):Prop :=
 (rq1 b a key=none∧r = .returned (.tuple #[entV none 0 0 none 0 0 none 0 0 noEnt,.slice none 0 0,.int .i64 0,.bool false])∧Below w.heap.size w z) ∨
 (∃ e k p A c B d D q KA kc,rq1 b a key=some (e,k,p)∧r = .returned (.tuple #[entV A e.row.length c B e.qual.length d D e.val.length q e,.slice KA k.length kc,.int .i64 (p:Nat),.bool true]) ∧
  OW w [bytO 5 (KA,kc,k),bytO 5 (A,c,e.row),bytO 5 (B,d,e.qual),bytO 5 (D,q,e.val)] z)
end Go.Proofs.YtfdbcfaeiglbeaaGreatDoor
