/-
 What these laws need beside: Kit19, Kit33, RunB1.
-/
import Derived.Test.YtfdbcfaeiglbeaaGreatDoorRXV
import Derived.WalkKit
import Derived.WalkSpells
import Derived.WalkLawsBesides
import Derived.Deep.AppendLies
import Derived.Deep.Draws
import Derived.Maps.AppendAt
import Derived.Lib.Hide
import Derived.Deep.QuietTactic
import Derived.BigQuiet
import Derived.Laws.CopyOwn
import Derived.Laws.BitsAllLaws
import Derived.Maps.OwnSet
import Derived.Laws.IdiomStrings
import Derived.Deep.RegionWith
import Derived.Deep.RegionLaw
import Derived.Lib.BytesEntry
import Derived.Lib.Bytealg
import Derived.Laws.Externs
import Derived.Laws.EntriesVeiled
import Derived.Laws.OwnMore
import Derived.Deep.DeepCutAuto
import Derived.Deep.RegionHeld3
import Derived.Deep.CutRange
import Derived.Lib.SlBytesConst
import Derived.Deep.MidRow
import Derived.Great.BuildSlice
import Derived.RangeFuncNested
import Derived.RangeFuncBound
import Derived.RangeFuncCalls
import Derived.RangeFuncLeaves
import Derived.OwnWalkIn
import Derived.TacticsInMore
import Derived.LoopIn
import Derived.Shelf.Abstract
import Derived.StillTailTactics
import Derived.Lib.Walk
import Derived.Lib.SliceRun
import Derived.Lib.AppendZerosOnto
import Derived.BigRegion
import Derived.Maps.RangeWalk
import Derived.Sort.MapsRangeIn
import Derived.Lib.MinMax
import Derived.Deep.CutBlock
namespace Go.Proofs.YtfdbcfaeiglbeaaGreatDoor
open Go.RowKit
def Parts.slots (p:Parts):List Nat:=(List.range p.k).flatMap fun j=>[p.s j,p.u j,p.t j]
section
variable {P : Program} {Q : Exit → Act → World → Prop} {T : TypeId} {w : World} {bs : List Bx1} {rs : RowL}
variable {p : Parts} {n m : Nat} {arg : Nat → List Value} {Pst : Nat → Value → RowL → Prop} {l : List Oper} {f0 : Act} {o : Oper} {j : Nat}
end
end Go.Proofs.YtfdbcfaeiglbeaaGreatDoor
namespace Go.Proofs.YtfdbcfaeiglbeaaGreatDoor
open Go.RowKit
section
variable {P : Program} {ops : Array Oper} {Q : Exit → Act → World → Prop} {K : Act → World → Prop} {rest : List Oper} {o : Oper} {a : Act} {w x : World} {os : List Ob}
theorem wl_makeN {t e:TypeId} {size bytes:Nat} (hg:o.guard=none) (l c:Operand) (hop:o.op=Op.makeSlice t l c) (hS:SliceOf P t e size bytes) (z:Value) (hz:(P.info? e).bind (·.zero)=some z) (n:Nat) (L C:Int) (hl:a.eval l = .int .i64 L) (hc:a.eval c = .int .i64 C) (hL:L=(n:Int)) (hC:C=(n:Int)) (b2:bytes * n≤281474976710656) (b3:n≤maxLen) (h:OW w os x)
  (hK:∀ g y,OW w (os ++ [rowO e size (.slice (some ⟨g,0,none⟩) n n) n (madeCells z.cells (n * size)).toList]) y→Below x.heap.size x y→wpList P ops Q rest (a.put o.dst (.slice (some ⟨g,0,none⟩) n n)) y):wpList P ops Q (o::rest) a x:=by
 obtain ⟨ht,⟨i,z',hi,hz',hsz,hby,_⟩,_⟩:=hS
 subst hby
 rw [hi] at hz
 have hz:i.zero=some z:=hz
 rw [hz'] at hz;injection hz with hz;subst hz
 refine wpList_make_full x hg l c t hop x.heap.size e i z' size ht hi hz' hsz .i64 .i64 L C n hl hc hL hC b2 b3 (Nat.le_refl _) fun w' ho hgr=>?_
 have hb:=below_grown_none hgr
 exact hK _ _ (h.app (OW.row1 hb ho)) hb
end
end Go.Proofs.YtfdbcfaeiglbeaaGreatDoor
namespace Go.Proofs.YtfdbcfaeiglbeaaGreatDoor
open Go.RowKit
theorem pairs7S:SliceOf Tryz.prog 65 117 2 16:=SliceOf.mk' (z := .agg #[.int .i64 0,.int .i64 0]) Tryz.underlying65 (by kernel_rfl) rfl (by decide)
def pairV (r:PRec):List Value:=[.int .i64 r.p.lo,.int .i64 r.p.hi]
theorem pairV_snoc {rs:List PRec} {n:Nat} {r:PRec} (h:rs[n]?=some r):(rs.take (n + 1)).flatMap pairV=(rs.take n).flatMap pairV ++ [.int .i64 r.p.lo,.int .i64 r.p.hi]:=by
 rw [take_snoc h,List.flatMap_append];rfl
set_option maxRecDepth 1000000 in
set_option maxHeartbeats 4000000 in
theorem blocks_any (q:RunRec) (w:World) (h:RunAt q w) (hn:q.rs.length≤1000000000) :
  Calls Tryz.prog 29 #[.pointer (some ⟨q.g,0,none⟩)] w fun e z=>∃ (LA:Option Addr) (lc:Nat),e = .returned (.slice LA q.rs.length lc)∧OW w [rowO 117 2 (.slice LA q.rs.length lc) q.rs.length (q.rs.flatMap pairV)] z:=by
 have HC9:Hid (∀ z,Below w.heap.size w z→z.cell? ⟨q.g,9,none⟩=some (.slice q.PA q.rs.length q.pc)):=Lib.hid fun z hz=>(h.later hz).cell (j:=9) rfl
 have HPR:Hid (∀ (k:Nat) (r:PRec),q.rs[k]?=some r→∃ g3,q.PA=some ⟨g3,0,none⟩∧∀ z,Below w.heap.size w z→z.rangeAt g3 (k * 4) r.cells):=Lib.hid fun k r hk=>by
  obtain ⟨g3,h1,_⟩:=h.partR hk
  refine ⟨g3,h1,fun z hz=>?_⟩
  obtain ⟨g4,h2,h3⟩:=(h.later hz).partR hk
  rw [h1] at h2;injection h2 with h2;injection h2 with h2 _ _;subst h2;exact h3
 have HX0:Hid (OW w (rowO 117 2 (.slice none 0 0) 0 []::[]) w):=Lib.hid ((OW.nil w).nilRow 117 2)
 clear h
 go_enter Tryz.func29,Tryz.ntmps29
 go_wp2_with (refine wpList_load_cell rfl 133 (.tmp 8) rfl rfl (HC9.out _ HX0.out.up) Tryz.isAgg133 ?_)
 -- the loop over the parts: slots 3 (the list) and 11 (the index)
 go_loopw [3,5,11] (fun lv _ iv wr=>∃ (n:Nat) (LA:Option Addr) (lc:Nat),n≤q.rs.length∧iv = .int .i64 n∧lv = .slice LA n lc∧Hid (OW w [rowO 117 2 (.slice LA n lc) n ((q.rs.take n).flatMap pairV)] wr)) (fun _ _ iv _=>q.rs.length - (intOf iv).toNat)
 case atStart=>exact ⟨0,none,0,Nat.zero_le _,rfl,rfl,HX0⟩
 case round =>
  clear HX0
  obtain ⟨n,LA,lc,hnm,rfl,rfl,HX⟩:=hrel
  by_cases hlt:n < q.rs.length
  case neg =>
   have hd:decide ((n:Int) < (q.rs.length:Int))=false:=decide_eq_false (by omega)
   obtain rfl:n=q.rs.length:=by omega
   go_wp2_with fail
   go_ret
   exact ⟨LA,lc,rfl,by have:=HX.out;rwa [List.take_length] at this⟩
  have hd:decide ((n:Int) < (q.rs.length:Int))=true:=decide_eq_true (by omega)
  obtain ⟨r,hr⟩:∃ r,q.rs[n]?=some r:=⟨_,List.getElem?_eq_getElem hlt⟩
  obtain ⟨g3,hPA,hcs⟩:=HPR.out n r hr
  have HCS:=Lib.hid hcs
  have HSN:=Lib.hid (pairV_snoc hr)
  have i1:(0:Int)≤(n:Int):=by omega
  have i2:(n:Int) < (q.rs.length:Int):=by omega
  clear hcs hr
  go_wp2_with (first
   | (refine wpList_load_at rfl 137 (.tmp 13) rfl rfl (HCS.out _ HX.out.up) part_row ?_)
   | (refine wl_alloc rfl rfl [.slice none 0 0,.slice none 0 0,.int .i64 0,.int .i64 0] (.inl (by kernel_rfl)) HX.out ?_;intro g4 x4 hz _;have HX4:Hid (OW w [rowO 117 2 (.slice LA n lc) n ((q.rs.take n).flatMap pairV),boxO g4 [.slice none 0 0,.slice none 0 0,.int .i64 0,.int .i64 0]] x4):=Lib.hid hz;clear hz HX)
   | (refine wl_put rfl (.tmp 5) (.tmp 14) rfl HX4.out 1 rfl rfl r.cells rfl rfl (by kernel_rfl) (by simp [PRec.cells,Value.oneCell']) ?_;intro x5 hz _;have HX5:Hid (OW w [rowO 117 2 (.slice LA n lc) n ((q.rs.take n).flatMap pairV),boxO g4 r.cells] x5):=Lib.hid hz;clear hz HX4)
   | (refine wpList_load_cell rfl 3 (.tmp 16) rfl rfl (HX5.out.cell (i:=1) (j:=2) rfl rfl) Tryz.isAgg3 ?_)
   | (refine wpList_load_cell rfl 3 (.tmp 18) rfl rfl (HX5.out.cell (i:=1) (j:=3) rfl rfl) Tryz.isAgg3 ?_)
   | (refine wl_build rfl #[(0,.tmp 20)] rfl #[.int .i64 r.p.lo,.int .i64 r.p.hi] pairs7S (.agg #[.int .i64 0,.int .i64 0]) (by kernel_rfl) (by decide) (by decide) (by decide) rfl (by first | rfl | kernel_rfl) HX5.out ?_;intro g6 x6 hz _;have HX6:Hid (OW w [rowO 117 2 (.slice LA n lc) n ((q.rs.take n).flatMap pairV),boxO g4 r.cells,rowO 117 2 (.slice (some ⟨g6,0,none⟩) 1 1) 1 [.int .i64 r.p.lo,.int .i64 r.p.hi]] x6):=Lib.hid hz;clear hz HX5)
   | (at_builtin;go_must (refine wl_append rfl (.tmp 15) (.tmp 21) rfl pairs7S HX6.out 0 rfl rfl _ (some ⟨g6,0,none⟩) 1 1 [.int .i64 r.p.lo,.int .i64 r.p.hi] rfl (Reads.own (HX6.out.row (i:=2) rfl)) (by simp [Value.oneCell']) (by unfold maxLen;omega) (by omega) ?_);intro A7 c7 x7 hz _;have HX7:Hid (OW w [rowO 117 2 (.slice A7 (n + 1) c7) (n + 1) ((q.rs.take n).flatMap pairV ++ [.int .i64 r.p.lo,.int .i64 r.p.hi])] x7):=Lib.hid (OW.left hz);clear hz HX6))
  rw [← hPA]
  go_roundw
  case rel=>exact ⟨n + 1,A7,c7,by omega,by go_num,rfl,Lib.hid (by rw [HSN.out];exact HX7.out)⟩
  case measure=>simp [intOf];omega
end Go.Proofs.YtfdbcfaeiglbeaaGreatDoor
