/-
 BlockQ2.
-/
import Derived.Test.YtfdbcfaeiglbeaaDoorRD15
import Derived.Lib.MinMax
import Derived.Lib.SlBytesConst
import Derived.Maps.RangeWalk
import Derived.Sort.MapsRangeIn
namespace Go.Proofs.YtfdbcfaeiglbeaaDoor
open Go.RowKit
def rowE (r:ER):List Ob:=[bytO 5 (r.A,r.c,r.e.row),bytO 5 (r.B,r.d,r.e.qual),bytO 5 (r.D,r.q,r.e.val)]
end Go.Proofs.YtfdbcfaeiglbeaaDoor
