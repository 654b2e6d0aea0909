/-
 RunL2.
-/
import Derived.Test.YtfdbcfaeiglbeaaDoorRD18
import Derived.Deep.CutBlock
import Derived.Lib.MinMax
import Derived.Maps.RangeWalk
import Derived.Sort.MapsRangeIn
namespace Go.Proofs.YtfdbcfaeiglbeaaDoor
open Go.RowKit
def firstE:Ent:=⟨[97],0,[113],7,33,1,[118]⟩
def FirstP (w:World) (r:Ending) (z:World):Prop:=∃ A B D,r = .returned (entV A 1 1 B 1 1 D 1 1 firstE)∧En z A 1 1 B 1 1 D 1 1 firstE∧Below w.heap.size w z
set_option maxRecDepth 100000 in
set_option maxHeartbeats 2000000 in
theorem first_any (w:World):Calls Tryd.prog 6 #[] w (FirstP w):=by
 have kc:=conv_const
 go_enter Tryd.func6,Tryd.ntmps6
 go_wp2
 (try simp only [Exit.inBlock,Exit.then])
 obtain ⟨h1,h2,h3,hb⟩:=three_lits w (.cells #[.slice (some ⟨w.heap.size + 1,0,none⟩) 1 1,.int .i64 0,.slice (some ⟨w.heap.size + 1 + 1,0,none⟩) 1 1,.int .i64 7,.int .i64 33,.int .i64 1,.slice (some ⟨w.heap.size + 1 + 1 + 1,0,none⟩) 1 1] 30) 97 113 118 5 (1,2) _ rfl
 have HB:=(Bxs.one w 30 #[.slice (some ⟨w.heap.size + 1,0,none⟩) 1 1,.int .i64 0,.slice (some ⟨w.heap.size + 1 + 1,0,none⟩) 1 1,.int .i64 7,.int .i64 33,.int .i64 1,.slice (some ⟨w.heap.size + 1 + 1 + 1,0,none⟩) 1 1]).later hb
 refine bodyPost_ret (results_box0 rfl _ _ w.heap.size _ rfl (HB.cells0 rfl) (by kernel_rfl) (by kernel_rfl)) rfl ?_
 exact ⟨_,_,_,rfl,⟨h1,h2,h3⟩,HB.up⟩
end Go.Proofs.YtfdbcfaeiglbeaaDoor
