/-
 BlockC4.
-/
import Derived.Test.YtfdbcfaeiglbeaaDoorRD18
namespace Go.Proofs.YtfdbcfaeiglbeaaDoor
open Go.RowKit
def Bk5 (R:Nat) (L:List Ent) (g:Nat) (os:List Ob):Prop:=∃ lv kv zs,os=blkO R g lv kv zs∧entsZ zs=L∧ZOk zs
theorem blk_ens {w x:World} {R g:Nat} {lv kv:Value} {zs:List ZR} {rest:List Ob} (h:OW w (blkO R g lv kv zs ++ rest) x):∃ A c,lv = .slice A zs.length c∧Ens x A zs.length (entsZ zs):=by
 obtain ⟨A,c,rfl,_⟩:=own_slice (h.row (i:=1) rfl)
 refine ⟨A,c,rfl,zs.map (·.1),by unfold entsZ;rw [List.map_map];rfl,?_,fun r hr=>?_⟩
 ·have h1:=Reads.own (h.row (i:=1) rfl)
  have e:zs.flatMap (·.1.cells)=(zs.map (·.1)).flatMap ER.cells:=by rw [List.flatMap_map]
  rw [e] at h1
  exact h1
 ·obtain ⟨z,hz,rfl⟩:=List.mem_map.1 hr
  refine ⟨h.slm (T:=5) (List.mem_append_left _ (rowZ_mem hz (by simp [rowsZ]))) rfl,h.slm (T:=5) (List.mem_append_left _ (rowZ_mem hz (by simp [rowsZ]))) rfl,h.slm (T:=5) (List.mem_append_left _ (rowZ_mem hz (by simp [rowsZ]))) rfl⟩
end Go.Proofs.YtfdbcfaeiglbeaaDoor
