/-
 BloomW3.
-/
import Derived.Test.YtfdbcfaeiglbeaaGreatDoorRZ2
import Derived.BigRegion
import Derived.Deep.DeepCutAuto
import Derived.Deep.Fields
import Derived.Deep.Slices
import Derived.Defers
import Derived.Great.BuildSlice
import Derived.Lib.SmallJoins
import Derived.LoopIn
import Derived.OwnWalkIn
import Derived.ProofKit
import Derived.RangeFuncBound
import Derived.RangeFuncCalls
import Derived.RangeFuncLeaves
import Derived.RangeFuncNested
import Derived.Shelf.Abstract
import Derived.SizedLaws
import Derived.TacticsInMore
import Derived.Test.YtfdbcfaeiglbeaaGreatDoorRows
namespace Go.Proofs.YtfdbcfaeiglbeaaGreatDoor
open Go.RowKit
set_option maxRecDepth 100000 in
set_option maxHeartbeats 2000000 in
theorem read_go (l:List UInt8) (A:Option Addr) (n c:Nat) (w:World) (hm:n≤9223372036854775807) (hr:RB w w.heap.size A n l) (h6:6≤n) (x1 x2 x3 x4 x5:UInt8) (e0:l[0]?=some 66) (e1:l[1]?=some x1) (e2:l[2]?=some x2) (e3:l[3]?=some x3) (e4:l[4]?=some x4) (e5:l[5]?=some x5) (P M:Nat) (hP:P=x1.toNat) (hM:M=headN x2 x3 x4 x5) (ok:Bool)
  (hok:ok=decide (1≤P∧P≤14∧64≤M∧M≤20971520∧M % 8=0∧n=6 + M / 8)) :
  Calls Tryz.prog 136 #[.slice A n c] w fun e w'=>e = .returned (.tuple #[.agg #[.int .i64 P,.int .u32 M],.bool ok])∧Below w.heap.size w w':=by
 obtain ⟨b,o,_,rfl,hb,_,_⟩:=hr.at_ (k:=0) (by omega)
 have c0:=hr.cell e0
 have c1:=hr.cell e1
 have c2:=hr.cell e2
 have c3:=hr.cell e3
 have c4:=hr.cell e4
 have c5:=hr.cell e5
 rw [Nat.add_zero] at c0
 have hne:w.heap.size ≠ b:=by omega
 have b2:=x2.toNat_lt
 have b3:=x3.toNat_lt
 have b4:=x4.toNat_lt
 have b5:=x5.toNat_lt
 have HM:=Lib.hid hM
 have HP:=Lib.hid hP
 have HOK:=Lib.hid hok
 have hMl:M < 4294967296:=by rw [hM];exact headN_lt _ _ _ _
 have hPl:P < 256:=by rw [hP];have:=x1.toNat_lt;omega
 clear e0 e1 e2 e3 e4 e5 hr hM hP hok
 go_enter Tryz.func136,Tryz.ntmps136
 go_upto_region 3 with fail
 go_cut [4] (fun s4 wx=>s4 = .pointer (some ⟨w.heap.size + 1,0,none⟩)∧wx=((w.alloc (.cells #[.int .i64 0,.int .u32 0] 219)).alloc (.cells #[.int .i64 P,.int .u32 M] 219)).drew)
 case first =>
  have b1:=x1.toNat_lt
  go_region
  go_wp2_with fail
  go_meet
  refine ⟨rfl,?_⟩
  rw [head_bits,← HM.out,← HP.out]
 case rest =>
  obtain ⟨rfl,rfl⟩:=hcut
  clear c0 c1 c2 c3 c4 c5 b2 b3 b4 b5 HM HP
  have hB:=((((Below.refl w.heap.size w).alloc (Nat.le_refl _) (.cells #[.int .i64 P,.int .u32 M] 219)).alloc (by simp) (.cells #[.int .i64 P,.int .u32 M] 219)).drew)
  have HB:=Lib.hid hB
  clear hB
  rcases (show P < 1∨14 < P∨((1≤P∧P≤14)∧M < 64)∨((1≤P∧P≤14)∧20971520 < M)∨((1≤P∧P≤14)∧(64≤M∧M≤20971520)∧M % 8 ≠ 0)∨((1≤P∧P≤14)∧(64≤M∧M≤20971520)∧M % 8=0) from by omega) with h | h | ⟨⟨h1,h2⟩,h⟩ | ⟨⟨h1,h2⟩,h⟩ | ⟨⟨h1,h2⟩,⟨h3,h4⟩,h⟩ | ⟨⟨h1,h2⟩,⟨h3,h4⟩,h⟩
  ·have E:Hid (ok=false):=Lib.hid (by rw [HOK.out];simp;omega)
   go_wp2
   go_region
   go_wp2
   exact bodyPost_ret (v := .tuple #[.agg #[.int .i64 P,.int .u32 M],.bool ok]) (by rw [E.out];simp [results,Tryz.results136,go_sem]) rfl ⟨rfl,HB.out.drew⟩
  ·have E:Hid (ok=false):=Lib.hid (by rw [HOK.out];simp;omega)
   go_wp2
   go_region
   go_wp2
   exact bodyPost_ret (v := .tuple #[.agg #[.int .i64 P,.int .u32 M],.bool ok]) (by rw [E.out];simp [results,Tryz.results136,go_sem]) rfl ⟨rfl,HB.out.drew⟩
  ·have E:Hid (ok=false):=Lib.hid (by rw [HOK.out];simp;omega)
   go_wp2
   go_region
   go_wp2
   exact bodyPost_ret (v := .tuple #[.agg #[.int .i64 P,.int .u32 M],.bool ok]) (by rw [E.out];simp [results,Tryz.results136,go_sem]) rfl ⟨rfl,HB.out.drew⟩
  ·have E:Hid (ok=false):=Lib.hid (by rw [HOK.out];simp;omega)
   go_wp2
   go_region
   go_wp2
   exact bodyPost_ret (v := .tuple #[.agg #[.int .i64 P,.int .u32 M],.bool ok]) (by rw [E.out];simp [results,Tryz.results136,go_sem]) rfl ⟨rfl,HB.out.drew⟩
  ·have E:Hid (ok=false):=Lib.hid (by rw [HOK.out];simp;omega)
   have d1:((M:Int) % 8 == 0)=false:=by rw [beq_eq_false_iff_ne];omega
   clear h
   go_wp2
   go_region
   go_wp2
   exact bodyPost_ret (v := .tuple #[.agg #[.int .i64 P,.int .u32 M],.bool ok]) (by rw [E.out];simp [results,Tryz.results136,go_sem]) rfl ⟨rfl,HB.out.drew⟩
  ·have d1:((M:Int) % 8 == 0)=true:=by rw [beq_iff_eq];omega
   by_cases hn:n=6 + M / 8
   ·have E:Hid (ok=true):=Lib.hid (by rw [HOK.out];simp;omega)
    have d2:((n:Int) == 6 + (M:Int) / 8)=true:=by rw [beq_iff_eq];omega
    clear h hn
    go_wp2
    go_region
    go_wp2
    exact bodyPost_ret (v := .tuple #[.agg #[.int .i64 P,.int .u32 M],.bool ok]) (by rw [E.out];simp [results,Tryz.results136,go_sem]) rfl ⟨rfl,HB.out.drew⟩
   ·have E:Hid (ok=false):=Lib.hid (by rw [HOK.out];simp;omega)
    have d2:((n:Int) == 6 + (M:Int) / 8)=false:=by rw [beq_eq_false_iff_ne];omega
    clear h hn
    go_wp2
    go_region
    go_wp2
    exact bodyPost_ret (v := .tuple #[.agg #[.int .i64 P,.int .u32 M],.bool ok]) (by rw [E.out];simp [results,Tryz.results136,go_sem]) rfl ⟨rfl,HB.out.drew⟩
set_option maxRecDepth 100000 in
set_option maxHeartbeats 400000 in
theorem read_no (l:List UInt8) (A:Option Addr) (n c:Nat) (w:World) (hm:n≤9223372036854775807) (hr:RB w w.heap.size A n l) (h:n < 6∨l[0]? ≠ some 66) :
  Calls Tryz.prog 136 #[.slice A n c] w fun e w'=>e = .returned (.tuple #[.agg #[.int .i64 0,.int .u32 0],.bool false])∧Below w.heap.size w w':=by
 by_cases h6:n < 6
 ·clear h hr
  go_enter Tryz.func136,Tryz.ntmps136
  go_wp2
  exact bodyPost_ret (v := .tuple #[.agg #[.int .i64 0,.int .u32 0],.bool false]) (by simp [results,Tryz.results136,go_sem]) rfl ⟨rfl,(Below.refl _ _).alloc (Nat.le_refl _) _⟩
 ·obtain ⟨b,o,x,rfl,hb,hx,hc⟩:=hr.at_ (k:=0) (by omega)
  have hne:w.heap.size ≠ b:=by omega
  have hx66:x.toNat ≠ 66:=by
   intro e
   rcases h with h | h
   ·omega
   ·exact h (by rw [hx];congr 1;exact UInt8.toNat_inj.1 e)
  have d1:((x.toNat:Int) != 66)=true:=by rw [bne_iff_ne];omega
  rw [Nat.add_zero] at hc
  have h6':6≤n:=by omega
  clear h hr hx h6 hx66
  go_enter Tryz.func136,Tryz.ntmps136
  go_wp2
  exact bodyPost_ret (v := .tuple #[.agg #[.int .i64 0,.int .u32 0],.bool false]) (by simp [results,Tryz.results136,go_sem]) rfl ⟨rfl,(Below.refl _ _).alloc (Nat.le_refl _) _⟩
theorem bf_read_any (l:List UInt8) (A:Option Addr) (n c:Nat) (w:World) (hm:n≤9223372036854775807) (hr:RB w w.heap.size A n l) :
  Calls Tryz.prog 136 #[.slice A n c] w fun e w'=>e = .returned (.tuple #[.agg #[.int .i64 (shapeP l),.int .u32 (shapeM l)],.bool (isF l)])∧Below w.heap.size w w':=by
 have hl:=hr.len
 by_cases h:l.length < 6∨l[0]? ≠ some 66
 ·have e1:shapeP l=0:=by unfold shapeP;rw [if_pos h]
  have e2:shapeM l=0:=by unfold shapeM;rw [if_pos h]
  have e3:isF l=false:=by unfold isF;rw [e1];simp
  rw [e1,e2,e3]
  exact read_no l A n c w hm hr (by rw [← hl];exact h)
 ·have h6:6≤l.length:=by omega
  have h0:l[0]?=some 66:=by
   rcases Classical.em (l[0]?=some 66) with h' | h'
   ·exact h'
   ·exact absurd (Or.inr h') h
  have e:∀ k,k < 6→l[k]?=some (l[k]?.getD 0):=fun k hk=>by rw [List.getElem?_eq_getElem (by omega)];rfl
  exact read_go l A n c w hm hr (by omega) _ _ _ _ _ h0 (e 1 (by omega)) (e 2 (by omega)) (e 3 (by omega)) (e 4 (by omega)) (e 5 (by omega)) (shapeP l) (shapeM l) (by unfold shapeP;rw [if_neg h]) (by unfold shapeM;rw [if_neg h]) (isF l) (by unfold isF;rw [hl])
end Go.Proofs.YtfdbcfaeiglbeaaGreatDoor
