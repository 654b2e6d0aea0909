/-
  The statements' reads, walked. (Printed by gen_reads.py.)
-/
import Derived.Test.YtbcljgcilbfblaaDoorWireW13
import Derived.Test.YtbcljgcilbfblaaDoorWireW9
import Derived.Test.YtbcljgcilbfblaaDoorWireW4
import Derived.Test.YtbcljgcilbfblaaDoorWireP10
namespace Go.Proofs.YtbcljgcilbfblaaDoor
open Go.RowKit

section
variable (X l : List UInt8) (XA A : Option Addr) (m cm n c a q v N : Nat) (w : World) (hx : Sl w XA m cm X) (hs : Sl w A n c l) (hm : m ≤ 140737488355000)
include hx hs hm

end
end Go.Proofs.YtbcljgcilbfblaaDoor
