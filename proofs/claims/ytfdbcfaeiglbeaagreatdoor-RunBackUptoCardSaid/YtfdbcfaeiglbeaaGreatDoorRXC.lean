/-
 What these laws need beside: Kit13, WireR3, WireR4, CellR2, Kit18, Kit19, RunL4, RunB1.
-/
import Derived.Test.YtfdbcfaeiglbeaaGreatDoorRXV
import Derived.WalkKit
import Derived.WalkSpells
import Derived.WalkLawsBesides
import Derived.Deep.AppendLies
import Derived.Deep.Draws
import Derived.Maps.AppendAt
import Derived.Lib.Hide
import Derived.Deep.QuietTactic
import Derived.BigQuiet
import Derived.Laws.CopyOwn
import Derived.Laws.BitsAllLaws
import Derived.Maps.OwnSet
import Derived.Laws.IdiomStrings
import Derived.Deep.RegionWith
import Derived.Deep.RegionLaw
import Derived.Lib.BytesEntry
import Derived.Lib.Bytealg
import Derived.Laws.Externs
import Derived.Laws.EntriesVeiled
import Derived.Laws.OwnMore
import Derived.Deep.DeepCutAuto
import Derived.Deep.RegionHeld3
import Derived.Deep.CutRange
import Derived.Lib.SlBytesConst
import Derived.Deep.MidRow
import Derived.Great.BuildSlice
import Derived.RangeFuncNested
import Derived.RangeFuncBound
import Derived.RangeFuncCalls
import Derived.RangeFuncLeaves
import Derived.OwnWalkIn
import Derived.TacticsInMore
import Derived.LoopIn
import Derived.Shelf.Abstract
import Derived.StillTailTactics
import Derived.Lib.Walk
import Derived.Lib.SliceRun
import Derived.Lib.AppendZerosOnto
import Derived.BigRegion
import Derived.Maps.RangeWalk
import Derived.Sort.MapsRangeIn
import Derived.Lib.MinMax
import Derived.Deep.CutBlock
import Derived.Defers
import Derived.ProofKit
import Derived.SizedLaws
import Derived.Lib.SmallJoins
import Derived.Deep.Slices
import Derived.Deep.Fields
import Derived.OpenShut
import Derived.Deep.DeepHandedRow
import Derived.Lib.LaidTab
namespace Go.Proofs.YtfdbcfaeiglbeaaGreatDoor
open Go.RowKit
section
variable {w x y : World} {cs : Array Value}
theorem own_aside {b1 base:Nat} {e e':TypeId} {s s' n n':Nat} {u v:Value} {xs us:List Value} {z:World} (h:x.ownsRow b1 e' s' u n' us) (hown:z.ownsRow base e s v n xs) (hz:z.heap.size≤b1) (hg:x.grownBy y v.ownBlock):y.ownsRow b1 e' s' u n' us :=
 own_chg h (grown_chg hg) fun g hg' e'=>by
  have h1:=(World.ownsRow.lt h g hg').1
  have h2:=(World.ownsRow.lt hown g e').2
  omega
end
end Go.Proofs.YtfdbcfaeiglbeaaGreatDoor
namespace Go.Proofs.YtfdbcfaeiglbeaaGreatDoor
open Go.RowKit
def eB (v:Nat):Nat→List UInt8
 | 0=>[]
 | i + 1=>UInt8.ofNat (v / 256 ^ i)::eB v i
theorem eB_ris (v:Nat):eB v 8=risB v:=by simp [eB,risB,rTo,List.range_succ]
set_option maxRecDepth 100000 in
set_option maxHeartbeats 1000000 in
theorem eight_any (v:Nat) (w:World) (hv:v < 18446744073709551616):Calls Tryz.prog 173 #[.int .u64 v] w (BytesPost 5 (risB v) w):=by
 go_enter Tryz.func173,Tryz.ntmps173
 go_wp2
 go_loopw [0,3,4] (fun x b i wr=>∃ (j V:Nat),j≤8∧i = .int .i64 j∧Hid (V=v / 256 ^ j)∧V < 18446744073709551616∧x = .int .u64 V∧wr.ownsRow w.heap.size 5 1 b j (u8s (eB v j))∧Hid (Below w.heap.size w wr)) (fun _ _ i _=>8 - (intOf i).toNat)
 case atStart=>exact ⟨0,v,by omega,rfl,Lib.hid (by simp),hv,rfl,own_nil _ _ _ _,Lib.hid (Below.refl _ _)⟩
 case round =>
  obtain ⟨j,V,hj,rfl,HV,hV,rfl,hown,HB⟩:=hrel
  by_cases hlt:j < 8
  case neg =>
   obtain rfl:j=8:=by omega
   have hd:decide ((8:Int) < 8)=false:=by decide
   rw [eB_ris] at hown
   have HP:=Lib.hid (bytes_post hown HB.out)
   clear hown
   go_wp2
   go_ret
   exact HP.out
  have hd:decide ((j:Int) < 8)=true:=decide_eq_true (by omega)
  obtain ⟨A,c,hbv,hl1,hl2,_,hrl⟩:=own_slice hown
  subst hbv
  have hm0:0≤(V:Int) % 256:=by omega
  have hm1:(V:Int) % 256 < 256:=by omega
  have HR:=Lib.hid hrl
  have hB:w.heap.size≤wr.heap.size:=HB.out.size
  have HC:Hid (u8s [UInt8.ofNat V]=[.int .u8 ((V:Int) % 256)]):=Lib.hid (by show [u8v _]=_;rw [u8v_mod])
  have HO:Hid ((wr.alloc (.cells #[.int .u8 ((V:Int) % 256)] 5)).ownsRow w.heap.size 5 1 (.slice (some ⟨wr.heap.size,0,none⟩) 1 1) 1 (u8s [UInt8.ofNat V])):=Lib.hid (by rw [HC.out];exact own_lit wr #[.int .u8 ((V:Int) % 256)] 5 w.heap.size 1 1 hB (by decide) rfl)
  have HN:Hid (u8s [UInt8.ofNat V] ++ u8s (eB v j)=u8s (eB v (j + 1))):=Lib.hid (by rw [HV.out,← u8s_append];rfl)
  clear hown hrl hl1 hl2
  go_wp2_with (at_builtin;go_must (refine wpList_append_reads _ rfl (.tmp 12) (.tmp 13) rfl Tryz.u8s' w.heap.size (.slice (some ⟨wr.heap.size,0,none⟩) 1 1) 1 (u8s [UInt8.ofNat V]) rfl HO.out wr.heap.size A j c (u8s (eB v j)) rfl (Reads.alloc HR.out (Nat.le_refl _) _) (u8s_one _) (by unfold maxLen;omega) (by omega) (by have:=HB.out.size;simp;omega) ?_);intro v1 w1 hown1 hg1 hat1;have HB1:=Lib.hid (below_app (HB.out.alloc HB.out.size (.cells #[.int .u8 ((V:Int) % 256)] 5)) HO.out hg1 (by have:=HB.out.size;simp;omega) (Nat.le_refl _));rw [HN.out] at hown1;have HO1:=Lib.hid hown1;clear hown1 hg1 hat1)
  have HV2:Hid (V / 256=v / 256 ^ (j + 1)):=Lib.hid (by rw [HV.out,Nat.pow_succ,Nat.div_div_eq_div_mul])
  have hO1:w1.ownsRow w.heap.size 5 1 v1 (j + 1) (u8s (eB v (j + 1))):=by
   have:=HO1.out
   rw [Nat.add_comm 1 j] at this
   exact this
  clear HO1 hB
  go_roundw
  case rel=>exact ⟨j + 1,V / 256,by omega,by go_num,HV2,by omega,by rw [Int.natCast_ediv];rfl,hO1,HB1⟩
  case measure=>simp [intOf];omega
theorem eight_of (v:Nat) (a:Int) (ha:a=(v:Int)) (w:World) (hv:v < 18446744073709551616):Calls Tryz.prog 173 #[.int .u64 a] w (BytesPost 5 (risB v) w):=by
 subst ha;exact eight_any v w hv
set_option maxRecDepth 100000 in
theorem rRising_any (v:Nat) (w:World) (hv:v < 9223372036854775808):Calls Tryz.prog 183 #[.int .i64 v] w (BytesPost2 5 (risB v) 0 w):=by
 have hd:decide ((v:Int) < 0)=false:=decide_eq_false (by omega)
 have e1:IntKind.u64.wrap (v:Int)=(v:Int):=by rw [IntKind.wrap_u64];omega
 go_enter Tryz.func183,Tryz.ntmps183
 go_wp2_with (go_at_call 173;go_must (refine (eight_of v _ (by omega) _ (by omega)).mono ?_);rintro e w1 ⟨A1,c1,rfl,hO1,hb1⟩)
 go_ret2
 exact ⟨A1,c1,rfl,hO1,hb1⟩
set_option maxRecDepth 100000 in
theorem rFalling_any (v:Nat) (w:World) (hv:v < 9223372036854775808):Calls Tryz.prog 172 #[.int .i64 v] w (BytesPost2 5 (risB (9223372036854775807 - v)) 0 w):=by
 have hd:decide ((v:Int) < 0)=false:=decide_eq_false (by omega)
 have HC:Hid (∀ z:Int,z=9223372036854775807 - (v:Int)→∀ w,Calls Tryz.prog 183 #[.int .i64 z] w (BytesPost2 5 (risB (9223372036854775807 - v)) 0 w)):=Lib.hid fun z hz w=>by
  rw [show z=((9223372036854775807 - v:Nat):Int) from by omega]
  exact rRising_any _ w (by omega)
 have k1:IntKind.i64.wrap (9223372036854775807 - (v:Int))=9223372036854775807 - (v:Int):=i64_sum (by omega) (by omega)
 go_enter Tryz.func172,Tryz.ntmps172
 go_wp2_with (go_at_call 183;go_must (refine (HC.out _ (by omega) _).mono ?_);rintro e w1 ⟨A1,c1,rfl,hO1,hb1⟩)
 go_ret2
 exact ⟨A1,c1,rfl,hO1,hb1⟩
end Go.Proofs.YtfdbcfaeiglbeaaGreatDoor
namespace Go.Proofs.YtfdbcfaeiglbeaaGreatDoor
open Go.RowKit
set_option maxRecDepth 100000 in
set_option maxHeartbeats 1000000 in
theorem rOrdered_any (l:List UInt8) (A:Option Addr) (n c:Nat) (w:World) (hn:n≤70368744177000) (hr:RB w w.heap.size A n l) :
  Calls Tryz.prog 171 #[.slice A n c] w (BytesPost 5 (ordB l) w):=by
 have HL:=Lib.hid hr.len
 have HR:Hid (∀ w',Below w.heap.size w w'→RB w' w'.heap.size A n l):=Lib.hid fun w' h=>hr.later h
 have HF:Hid (∀ k,((l.take k).flatMap ordC).length≤140737488354000):=Lib.hid fun k=>by
  have:=ordF_len (l.take k)
  have h2:(l.take k).length≤l.length:=by rw [List.length_take];omega
  have h3:=HL.out
  omega
 clear hr
 go_enter Tryz.func171,Tryz.ntmps171
 go_wp2
 go_loopw [3,4] (fun v i wr=>∃ (k:Nat) (P:List UInt8),k≤n∧i = .int .i64 k∧Hid (P=(l.take k).flatMap ordC)∧wr.ownsRow w.heap.size 5 1 v P.length (u8s P)∧Hid (Below w.heap.size w wr)) (fun _ i _=>n - (intOf i).toNat)
 case atStart=>exact ⟨0,[],Nat.zero_le _,rfl,Lib.hid rfl,own_nil _ _ _ _,Lib.hid (Below.refl _ _)⟩
 case round =>
  obtain ⟨k,P,hk,rfl,HP,hown,HB⟩:=hrel
  obtain ⟨v,hv⟩:∃ v,v=u3:=⟨_,rfl⟩
  rw [← hv] at hown ⊢
  clear hv
  have HPL:Hid (P.length≤140737488354000):=Lib.hid (by rw [HP.out];exact HF.out k)
  by_cases hlt:k < n
  case neg =>
   have HE:Hid (P ++ [0,1]=ordB l):=Lib.hid (by rw [HP.out,take_all (by have:=HL.out;omega)];rfl)
   go_wp2_with (at_builtin;go_must (refine wpList_append_reads _ rfl (.tmp 26) (.tmp 27) rfl Tryz.u8s' w.heap.size v P.length (u8s P) rfl (hown.alloc _) (wr.heap.size + 1) (some ⟨wr.heap.size,0,none⟩) 2 2 (u8s [0,1]) rfl (by exact reads_lit wr _ [0,1] _ _ rfl) (u8s_one _) (by have:=HPL.out;unfold maxLen;omega) (by have:=HPL.out;omega) (by have:=HB.out.size;simp;omega) ?_);intro v1 w1 hown1 hg1 hat1)
   go_ret
   have hB:w.heap.size≤(wr.alloc (.cells #[.int .u8 0,.int .u8 1] 5)).heap.size:=by have:=HB.out.size;simp;omega
   have HB1:=below_app (HB.out.alloc HB.out.size _) (hown.alloc _) hg1 hB (Nat.le_refl _)
   rw [← u8s_append,HE.out] at hown1
   exact bytes_post hown1 HB1
  obtain ⟨b,o,y,rfl,_,hy,hcy⟩:=(HR.out _ HB.out).at_ hlt
  have HY:=Lib.hid (ordB_take hy)
  have HY0:=Lib.hid hy
  clear hy
  by_cases h0:y.toNat=0
  ·have HN:Hid ((P ++ [y]) ++ [255]=(l.take (k + 1)).flatMap ordC):=Lib.hid (by
    rw [HY.out,HP.out]
    unfold ordC
    rw [if_pos h0,UInt8.toNat_inj.1 (show y.toNat=(0:UInt8).toNat from h0)];simp)
   have hd:((y.toNat:Int) == 0)=true:=by rw [beq_iff_eq];omega
   have tok1:True:=trivial
   clear HY h0
   go_wp2_with (first
    | (at_builtin;have _t:=tok1;go_must (refine wpList_append_reads _ rfl (.tmp 11) (.tmp 16) rfl Tryz.u8s' w.heap.size v P.length (u8s P) rfl (hown.alloc _) (wr.heap.size + 1) (some ⟨wr.heap.size,0,none⟩) 1 1 (u8s [y]) rfl (by exact reads_lit wr _ [y] _ _ rfl) (u8s_one _) (by have:=HPL.out;unfold maxLen;omega) (by have:=HPL.out;omega) (by have:=HB.out.size;simp;omega) ?_);intro v1 w1 hown1 hg1 hat1;clear tok1;have HB1:=Lib.hid (below_app (HB.out.alloc HB.out.size (.cells #[.int .u8 (y.toNat:Int)] 5)) (hown.alloc _) hg1 (by have:=HB.out.size;simp;omega) (Nat.le_refl _));rw [← u8s_append] at hown1;have HO1:=Lib.hid hown1;have hcy1:=(HR.out _ HB1.out).cell HY0.out;clear hown1 hg1 hat1)
    | (at_builtin;go_must (refine wpList_append_reads _ rfl (.tmp 23) (.tmp 24) rfl Tryz.u8s' w.heap.size v1 (P.length + 1) (u8s (P ++ [y])) rfl (HO1.out.alloc _) (w1.heap.size + 1) (some ⟨w1.heap.size,0,none⟩) 1 1 (u8s [255]) rfl (by exact reads_lit w1 _ [255] _ _ rfl) (u8s_one _) (by have:=HPL.out;unfold maxLen;omega) (by have:=HPL.out;omega) (by have:=HB1.out.size;simp;omega) ?_);intro v2 w2 hown2 hg2 hat2;have HB2:=Lib.hid (below_app (HB1.out.alloc HB1.out.size (.cells #[.int .u8 255] 5)) (HO1.out.alloc _) hg2 (by have:=HB1.out.size;simp;omega) (Nat.le_refl _));rw [← u8s_append] at hown2;have HO2:=Lib.hid hown2;clear hown2 hg2 hat2))
   have hO2:w2.ownsRow w.heap.size 5 1 v2 ((P ++ [y]) ++ [255]).length (u8s ((P ++ [y]) ++ [255])):=by
    have:=HO2.out
    have e:((P ++ [y]) ++ [(255:UInt8)]).length=P.length + 1 + 1:=by simp
    rw [e];exact this
   clear HO2 HO1
   go_roundw
   case rel=>exact ⟨k + 1,(P ++ [y]) ++ [255],by omega,by go_num,HN,hO2,HB2⟩
   case measure=>simp [intOf];omega
  ·have HN:Hid (P ++ [y]=(l.take (k + 1)).flatMap ordC):=Lib.hid (by
    rw [HY.out,HP.out]
    unfold ordC
    rw [if_neg h0])
   have hd:((y.toNat:Int) == 0)=false:=by rw [beq_eq_false_iff_ne];omega
   clear HY h0
   go_wp2_with (at_builtin;go_must (refine wpList_append_reads _ rfl (.tmp 11) (.tmp 16) rfl Tryz.u8s' w.heap.size v P.length (u8s P) rfl (hown.alloc _) (wr.heap.size + 1) (some ⟨wr.heap.size,0,none⟩) 1 1 (u8s [y]) rfl (by exact reads_lit wr _ [y] _ _ rfl) (u8s_one _) (by have:=HPL.out;unfold maxLen;omega) (by have:=HPL.out;omega) (by have:=HB.out.size;simp;omega) ?_);intro v1 w1 hown1 hg1 hat1;have HB1:=Lib.hid (below_app (HB.out.alloc HB.out.size (.cells #[.int .u8 (y.toNat:Int)] 5)) (hown.alloc _) hg1 (by have:=HB.out.size;simp;omega) (Nat.le_refl _));rw [← u8s_append] at hown1;have HO1:=Lib.hid hown1;have hcy1:=(HR.out _ HB1.out).cell HY0.out;clear hown1 hg1 hat1)
   have hO1:w1.ownsRow w.heap.size 5 1 v1 (P ++ [y]).length (u8s (P ++ [y])):=by
    have:=HO1.out
    rw [show (P ++ [y]).length=P.length + 1 from by simp];exact this
   clear HO1
   go_roundw
   case rel=>exact ⟨k + 1,P ++ [y],by omega,by go_num,HN,hO1,HB1⟩
   case measure=>simp [intOf];omega
end Go.Proofs.YtfdbcfaeiglbeaaGreatDoor
namespace Go.Proofs.YtfdbcfaeiglbeaaGreatDoor
open Go.RowKit
theorem rFalling_at (v:Nat) (w:World) (hv:v < 9223372036854775808):Calls Tryz.prog 172 #[.int .i64 v] w fun e w'=>∃ A c,e = .returned (.tuple #[.slice A 8 c,.int .i64 0])∧w'.ownsRow w.heap.size 5 1 (.slice A 8 c) 8 (u8s (numK v))∧Below w.heap.size w w':=by
 refine (rFalling_any v w hv).mono fun e w' h=>?_
 obtain ⟨A,c,h1,h2,h3,h4⟩:=BytesPost2.at_ h (risB_len _) rfl
 refine ⟨A,c,h1,?_,h4⟩
 unfold numK
 rw [Int.toNat_natCast]
 have:=h3
 unfold OwnB at this
 rw [risB_len] at this
 exact this
set_option maxRecDepth 100000 in
set_option maxHeartbeats 2000000 in
theorem rkey_five (row qual:List UInt8) (A:Option Addr) (n c F:Nat) (B:Option Addr) (m d T S:Nat) (D:Option Addr) (v q:Nat) (w:World) (hrow:Sl w A n c row) (hqual:Sl w B m d qual) (hz:checkN n F m T S 5 v=0) :
  Calls Tryz.prog 119 #[.agg #[.slice A n c,.int .i64 (F:Int),.slice B m d,.int .i64 (T:Int),.int .i64 (S:Int),.int .i64 5,.slice D v q]] w (BytesPost 5 (keyE ⟨row,F,qual,T,S,5,[]⟩) w):=by
 obtain ⟨z1,z2,z3,z4,z5,z6,-⟩:=checkN_ok hz
 have HN:Hid (n≤256∧m≤256∧T≤1099511627776∧S≤17592186044431):=Lib.hid (by omega)
 have HR:Hid (∀ x,Below w.heap.size w x→Sl x A n c row):=Lib.hid fun x h=>hrow.later h
 have HQ:Hid (∀ x,Below w.heap.size w x→Sl x B m d qual):=Lib.hid fun x h=>hqual.later h
 have HLEN:Hid ((ordB row).length≤514∧(ordB qual).length≤514):=Lib.hid (by
  have h1:=ordB_len row;have h2:=ordB_len qual;have h3:=hrow.len;have h4:=hqual.len;omega)
 have HX0:=Lib.hid (Bx.new w #[.slice A n c,.int .i64 (F:Int),.slice B m d,.int .i64 (T:Int),.int .i64 (S:Int),.int .i64 5,.slice D v q] 60)
 clear hz z1 z2 z3 z4 z5 z6 hrow hqual
 have tO1:True:=trivial
 have tA1:True:=trivial
 have tA2:True:=trivial
 have tF1:True:=trivial
 have tA5:True:=trivial
 have tA6:True:=trivial
 go_enter Tryz.func119,Tryz.ntmps119
 go_wp2_with (first
  | (go_at_call 171;have _t:=tO1;go_must (refine (rOrdered_any row A n c _ (by have:=HN.out;omega) (HR.out _ HX0.out.up).rb).mono ?_);rintro e x1 ⟨A1,c1,rfl,hO1,hb1⟩;have HX1:=Lib.hid (HX0.out.later hb1);have HO1:=Lib.hid (own_low hO1 HX0.out.size);clear hO1 hb1 tO1;have q1_1:=HX1.out.cell (i:=1) (v := .int .i64 (F:Int)) rfl)
  | (at_builtin;have _t:=tA1;go_must (refine wpList_append_reads _ rfl (.tmp 12) (.tmp 16) rfl Tryz.u8s' (w.heap.size + 1) (.slice A1 (ordB row).length c1) ((ordB row).length) (u8s (ordB row)) rfl (HO1.out.alloc _) (x1.heap.size + 1) (some ⟨x1.heap.size,0,none⟩) 1 1 (u8s ([UInt8.ofNat F])) rfl (by exact reads_lit x1 _ ([UInt8.ofNat F]) _ _ (by show [_]=[u8v _];rw [u8v_mod])) (u8s_one _) (by have:=HLEN.out;unfold maxLen;omega) (by have:=HLEN.out;omega) (by have:=HX1.out.size;simp;omega) ?_);intro v2 x2 hown hg hat;clear tA1;have HX2:=Lib.hid ((HX1.out.alloc _).grow (HO1.out.alloc _) hg);rw [← u8s_append] at hown;have HO2:=Lib.hid hown;clear hown hg hat;have q2_5:=HX2.out.cell (i:=5) (v := .int .i64 5) rfl)
  | (at_builtin;have _t:=tA2;go_must (refine wpList_append_reads _ rfl (.tmp 21) (.tmp 22) rfl Tryz.u8s' (w.heap.size + 1) v2 ((ordB row).length + 1) (u8s ((ordB row) ++ [UInt8.ofNat F])) rfl (HO2.out.alloc _) (x2.heap.size + 1) (some ⟨x2.heap.size,0,none⟩) 1 1 (u8s ([0])) rfl (by exact reads_lit x2 _ ([0]) _ _ (by rfl)) (u8s_one _) (by have:=HLEN.out;unfold maxLen;omega) (by have:=HLEN.out;omega) (by have:=HX2.out.size;simp;omega) ?_);intro v3 x3 hown hg hat;clear tA2;have HX3:=Lib.hid ((HX2.out.alloc _).grow (HO2.out.alloc _) hg);rw [← u8s_append] at hown;have HO3:=Lib.hid hown;clear hown hg hat;have q3_3:=HX3.out.cell (i:=3) (v := .int .i64 (T:Int)) rfl)
  | (go_at_call 172;have _t:=tF1;go_must (refine (rFalling_at T _ (by have:=HN.out;omega)).mono ?_);rintro e x7 ⟨A7,c7,rfl,hO7,hb7⟩;have HX7:=Lib.hid (HX3.out.later hb7);have HO7:=Lib.hid (own_below HO3.out hb7);have HT7:=Lib.hid hO7;clear hO7 hb7 tF1;have q7_4:=HX7.out.cell (i:=4) (v := .int .i64 (S:Int)) rfl)
  | (go_at_call 172;go_must (refine (rFalling_at S _ (by have:=HN.out;omega)).mono ?_);rintro e x8 ⟨A8,c8,rfl,hO8,hb8⟩;have HX8:=Lib.hid (HX7.out.later hb8);have HO8:=Lib.hid (own_below HO7.out hb8);have HS8:=Lib.hid hO8;have HR8:=Lib.hid (RB.own (own_below HT7.out hb8));clear hO8 hb8)
  | (at_builtin;have _t:=tA5;go_must (refine wpList_append_reads _ rfl (.tmp 51) (.tmp 52) rfl Tryz.u8s' (w.heap.size + 1) v3 ((ordB row).length + 1 + 1) (u8s (((ordB row) ++ [UInt8.ofNat F]) ++ [0])) rfl HO8.out x8.heap.size A7 8 c7 (u8s (numK T)) rfl HR8.out (u8s_one _) (by have:=HLEN.out;unfold maxLen;omega) (by have:=HLEN.out;omega) (by have:=HX8.out.size;omega) ?_);intro v9 x9 hown hg hat;clear tA5;have HR9:=Lib.hid (RB.own (own_aside HS8.out HO7.out (Nat.le_refl _) hg));have HX9:=Lib.hid (HX8.out.grow HO8.out hg);rw [← u8s_append] at hown;have HO9:=Lib.hid hown;clear hown hg hat;have q9_5:=HX9.out.cell (i:=5) (v := .int .i64 5) rfl)
  | (at_builtin;have _t:=tA6;go_must (refine wpList_append_reads _ rfl (.tmp 54) (.tmp 55) rfl Tryz.u8s' (w.heap.size + 1) v9 ((ordB row).length + 1 + 1 + 8) (u8s ((((ordB row) ++ [UInt8.ofNat F]) ++ [0]) ++ numK T)) rfl HO9.out x9.heap.size A8 8 c8 (u8s (numK S)) rfl HR9.out (u8s_one _) (by have:=HLEN.out;unfold maxLen;omega) (by have:=HLEN.out;omega) (by have:=HX9.out.size;omega) ?_);intro va xa hown hg hat;clear tA6;have HXa:=Lib.hid (HX9.out.grow HO9.out hg);rw [← u8s_append] at hown;have HOa:=Lib.hid hown;clear hown hg hat;have q10_5:=HXa.out.cell (i:=5) (v := .int .i64 5) rfl)
  | (at_builtin;go_must (refine wpList_append_reads _ rfl (.tmp 57) (.tmp 61) rfl Tryz.u8s' (w.heap.size + 1) va ((ordB row).length + 1 + 1 + 8 + 8) (u8s (((((ordB row) ++ [UInt8.ofNat F]) ++ [0]) ++ numK T) ++ numK S)) rfl (HOa.out.alloc _) (xa.heap.size + 1) (some ⟨xa.heap.size,0,none⟩) 1 1 (u8s ([UInt8.ofNat 5])) rfl (by exact reads_lit xa _ ([UInt8.ofNat 5]) _ _ (by rfl)) (u8s_one _) (by have:=HLEN.out;unfold maxLen;omega) (by have:=HLEN.out;omega) (by have:=HXa.out.size;simp;omega) ?_);intro vb xb hown hg hat;have HXb:=Lib.hid ((HXa.out.alloc _).grow (HOa.out.alloc _) hg);rw [← u8s_append] at hown;have HOb:=Lib.hid hown;clear hown hg hat))
 go_ret
 have hf:((((((ordB row) ++ [UInt8.ofNat F]) ++ [0]) ++ numK T) ++ numK S) ++ [UInt8.ofNat 5])=keyE ⟨row,F,qual,T,S,5,[]⟩:=by
  unfold keyE tailK qualK
  simp [flg]
 have:=HOb.out
 rw [hf] at this
 exact bytes_post (own_low this (Nat.le_succ _)) HXb.out.up
set_option maxRecDepth 100000 in
set_option maxHeartbeats 2000000 in
theorem rkey_four (row qual:List UInt8) (A:Option Addr) (n c F:Nat) (B:Option Addr) (m d T S:Nat) (D:Option Addr) (v q:Nat) (w:World) (hrow:Sl w A n c row) (hqual:Sl w B m d qual) (hz:checkN n F m T S 4 v=0) :
  Calls Tryz.prog 119 #[.agg #[.slice A n c,.int .i64 (F:Int),.slice B m d,.int .i64 (T:Int),.int .i64 (S:Int),.int .i64 4,.slice D v q]] w (BytesPost 5 (keyE ⟨row,F,qual,T,S,4,[]⟩) w):=by
 obtain ⟨z1,z2,z3,z4,z5,z6,-⟩:=checkN_ok hz
 have HN:Hid (n≤256∧m≤256∧T≤1099511627776∧S≤17592186044431):=Lib.hid (by omega)
 have HR:Hid (∀ x,Below w.heap.size w x→Sl x A n c row):=Lib.hid fun x h=>hrow.later h
 have HQ:Hid (∀ x,Below w.heap.size w x→Sl x B m d qual):=Lib.hid fun x h=>hqual.later h
 have HLEN:Hid ((ordB row).length≤514∧(ordB qual).length≤514):=Lib.hid (by
  have h1:=ordB_len row;have h2:=ordB_len qual;have h3:=hrow.len;have h4:=hqual.len;omega)
 have HX0:=Lib.hid (Bx.new w #[.slice A n c,.int .i64 (F:Int),.slice B m d,.int .i64 (T:Int),.int .i64 (S:Int),.int .i64 4,.slice D v q] 60)
 clear hz z1 z2 z3 z4 z5 z6 hrow hqual
 have tO1:True:=trivial
 have tA1:True:=trivial
 have tA2:True:=trivial
 have tF1:True:=trivial
 have tA5:True:=trivial
 have tA6:True:=trivial
 have tO2:True:=trivial
 have tA3:True:=trivial
 have tA4:True:=trivial
 go_enter Tryz.func119,Tryz.ntmps119
 go_wp2_with (first
  | (go_at_call 171;have _t:=tO1;go_must (refine (rOrdered_any row A n c _ (by have:=HN.out;omega) (HR.out _ HX0.out.up).rb).mono ?_);rintro e x1 ⟨A1,c1,rfl,hO1,hb1⟩;have HX1:=Lib.hid (HX0.out.later hb1);have HO1:=Lib.hid (own_low hO1 HX0.out.size);clear hO1 hb1 tO1;have q1_1:=HX1.out.cell (i:=1) (v := .int .i64 (F:Int)) rfl)
  | (at_builtin;have _t:=tA1;go_must (refine wpList_append_reads _ rfl (.tmp 12) (.tmp 16) rfl Tryz.u8s' (w.heap.size + 1) (.slice A1 (ordB row).length c1) ((ordB row).length) (u8s (ordB row)) rfl (HO1.out.alloc _) (x1.heap.size + 1) (some ⟨x1.heap.size,0,none⟩) 1 1 (u8s ([UInt8.ofNat F])) rfl (by exact reads_lit x1 _ ([UInt8.ofNat F]) _ _ (by show [_]=[u8v _];rw [u8v_mod])) (u8s_one _) (by have:=HLEN.out;unfold maxLen;omega) (by have:=HLEN.out;omega) (by have:=HX1.out.size;simp;omega) ?_);intro v2 x2 hown hg hat;clear tA1;have HX2:=Lib.hid ((HX1.out.alloc _).grow (HO1.out.alloc _) hg);rw [← u8s_append] at hown;have HO2:=Lib.hid hown;clear hown hg hat;have q2_5:=HX2.out.cell (i:=5) (v := .int .i64 4) rfl)
  | (at_builtin;have _t:=tA2;go_must (refine wpList_append_reads _ rfl (.tmp 24) (.tmp 25) rfl Tryz.u8s' (w.heap.size + 1) v2 ((ordB row).length + 1) (u8s ((ordB row) ++ [UInt8.ofNat F])) rfl (HO2.out.alloc _) (x2.heap.size + 1) (some ⟨x2.heap.size,0,none⟩) 1 1 (u8s ([1])) rfl (by exact reads_lit x2 _ ([1]) _ _ (by rfl)) (u8s_one _) (by have:=HLEN.out;unfold maxLen;omega) (by have:=HLEN.out;omega) (by have:=HX2.out.size;simp;omega) ?_);intro v3 x3 hown hg hat;clear tA2;have HX3:=Lib.hid ((HX2.out.alloc _).grow (HO2.out.alloc _) hg);rw [← u8s_append] at hown;have HO3:=Lib.hid hown;clear hown hg hat;have q3_2:=HX3.out.cell (i:=2) (v := .slice B m d) rfl)
  | (go_at_call 171;have _t:=tO2;go_must (refine (rOrdered_any qual B m d _ (by have:=HN.out;omega) (HQ.out _ HX3.out.up).rb).mono ?_);rintro e x4 ⟨A4,c4,rfl,hO4,hb4⟩;have HX4:=Lib.hid (HX3.out.later hb4);have HO4:=Lib.hid (own_below HO3.out hb4);have HR4:=Lib.hid (RB.own hO4);clear hO4 hb4 tO2)
  | (at_builtin;have _t:=tA3;go_must (refine wpList_append_reads _ rfl (.tmp 27) (.tmp 30) rfl Tryz.u8s' (w.heap.size + 1) v3 ((ordB row).length + 1 + 1) (u8s (((ordB row) ++ [UInt8.ofNat F]) ++ [1])) rfl HO4.out x4.heap.size A4 (ordB qual).length c4 (u8s (ordB qual)) rfl HR4.out (u8s_one _) (by have:=HLEN.out;unfold maxLen;omega) (by have:=HLEN.out;omega) (by have:=HX4.out.size;omega) ?_);intro v5 x5 hown hg hat;clear tA3;have HX5:=Lib.hid (HX4.out.grow HO4.out hg);rw [← u8s_append] at hown;have HO5:=Lib.hid hown;clear hown hg hat;have q5_5:=HX5.out.cell (i:=5) (v := .int .i64 4) rfl)
  | (at_builtin;have _t:=tA4;go_must (refine wpList_append_reads _ rfl (.tmp 35) (.tmp 37) rfl Tryz.u8s' (w.heap.size + 1) v5 ((ordB row).length + 1 + 1 + (ordB qual).length) (u8s ((((ordB row) ++ [UInt8.ofNat F]) ++ [1]) ++ ordB qual)) rfl (HO5.out.alloc _) (x5.heap.size + 1) (some ⟨x5.heap.size,0,none⟩) 1 1 (u8s ([0])) rfl (by exact reads_lit x5 _ ([0]) _ _ (by rfl)) (u8s_one _) (by have:=HLEN.out;unfold maxLen;omega) (by have:=HLEN.out;omega) (by have:=HX5.out.size;simp;omega) ?_);intro v6 x6 hown hg hat;clear tA4;have HX6:=Lib.hid ((HX5.out.alloc _).grow (HO5.out.alloc _) hg);rw [← u8s_append] at hown;have HO6:=Lib.hid hown;clear hown hg hat;have q6_3:=HX6.out.cell (i:=3) (v := .int .i64 (T:Int)) rfl)
  | (go_at_call 172;have _t:=tF1;go_must (refine (rFalling_at T _ (by have:=HN.out;omega)).mono ?_);rintro e x7 ⟨A7,c7,rfl,hO7,hb7⟩;have HX7:=Lib.hid (HX6.out.later hb7);have HO7:=Lib.hid (own_below HO6.out hb7);have HT7:=Lib.hid hO7;clear hO7 hb7 tF1;have q7_4:=HX7.out.cell (i:=4) (v := .int .i64 (S:Int)) rfl)
  | (go_at_call 172;go_must (refine (rFalling_at S _ (by have:=HN.out;omega)).mono ?_);rintro e x8 ⟨A8,c8,rfl,hO8,hb8⟩;have HX8:=Lib.hid (HX7.out.later hb8);have HO8:=Lib.hid (own_below HO7.out hb8);have HS8:=Lib.hid hO8;have HR8:=Lib.hid (RB.own (own_below HT7.out hb8));clear hO8 hb8)
  | (at_builtin;have _t:=tA5;go_must (refine wpList_append_reads _ rfl (.tmp 51) (.tmp 52) rfl Tryz.u8s' (w.heap.size + 1) v6 ((ordB row).length + 1 + 1 + (ordB qual).length + 1) (u8s (((((ordB row) ++ [UInt8.ofNat F]) ++ [1]) ++ ordB qual) ++ [0])) rfl HO8.out x8.heap.size A7 8 c7 (u8s (numK T)) rfl HR8.out (u8s_one _) (by have:=HLEN.out;unfold maxLen;omega) (by have:=HLEN.out;omega) (by have:=HX8.out.size;omega) ?_);intro v9 x9 hown hg hat;clear tA5;have HR9:=Lib.hid (RB.own (own_aside HS8.out HO7.out (Nat.le_refl _) hg));have HX9:=Lib.hid (HX8.out.grow HO8.out hg);rw [← u8s_append] at hown;have HO9:=Lib.hid hown;clear hown hg hat;have q9_5:=HX9.out.cell (i:=5) (v := .int .i64 4) rfl)
  | (at_builtin;have _t:=tA6;go_must (refine wpList_append_reads _ rfl (.tmp 54) (.tmp 55) rfl Tryz.u8s' (w.heap.size + 1) v9 ((ordB row).length + 1 + 1 + (ordB qual).length + 1 + 8) (u8s ((((((ordB row) ++ [UInt8.ofNat F]) ++ [1]) ++ ordB qual) ++ [0]) ++ numK T)) rfl HO9.out x9.heap.size A8 8 c8 (u8s (numK S)) rfl HR9.out (u8s_one _) (by have:=HLEN.out;unfold maxLen;omega) (by have:=HLEN.out;omega) (by have:=HX9.out.size;omega) ?_);intro va xa hown hg hat;clear tA6;have HXa:=Lib.hid (HX9.out.grow HO9.out hg);rw [← u8s_append] at hown;have HOa:=Lib.hid hown;clear hown hg hat;have q10_5:=HXa.out.cell (i:=5) (v := .int .i64 4) rfl)
  | (at_builtin;go_must (refine wpList_append_reads _ rfl (.tmp 57) (.tmp 61) rfl Tryz.u8s' (w.heap.size + 1) va ((ordB row).length + 1 + 1 + (ordB qual).length + 1 + 8 + 8) (u8s (((((((ordB row) ++ [UInt8.ofNat F]) ++ [1]) ++ ordB qual) ++ [0]) ++ numK T) ++ numK S)) rfl (HOa.out.alloc _) (xa.heap.size + 1) (some ⟨xa.heap.size,0,none⟩) 1 1 (u8s ([UInt8.ofNat 4])) rfl (by exact reads_lit xa _ ([UInt8.ofNat 4]) _ _ (by rfl)) (u8s_one _) (by have:=HLEN.out;unfold maxLen;omega) (by have:=HLEN.out;omega) (by have:=HXa.out.size;simp;omega) ?_);intro vb xb hown hg hat;have HXb:=Lib.hid ((HXa.out.alloc _).grow (HOa.out.alloc _) hg);rw [← u8s_append] at hown;have HOb:=Lib.hid hown;clear hown hg hat))
 go_ret
 have hf:((((((((ordB row) ++ [UInt8.ofNat F]) ++ [1]) ++ ordB qual) ++ [0]) ++ numK T) ++ numK S) ++ [UInt8.ofNat 4])=keyE ⟨row,F,qual,T,S,4,[]⟩:=by
  unfold keyE tailK qualK
  simp [flg]
 have:=HOb.out
 rw [hf] at this
 exact bytes_post (own_low this (Nat.le_succ _)) HXb.out.up
set_option maxRecDepth 100000 in
set_option maxHeartbeats 2000000 in
theorem rkey_more (row qual:List UInt8) (A:Option Addr) (n c F:Nat) (B:Option Addr) (m d T S K:Nat) (D:Option Addr) (v q:Nat) (w:World) (hrow:Sl w A n c row) (hqual:Sl w B m d qual) (hz:checkN n F m T S K v=0) (hk5:K ≠ 5) (hk4:K ≠ 4) :
  Calls Tryz.prog 119 #[.agg #[.slice A n c,.int .i64 (F:Int),.slice B m d,.int .i64 (T:Int),.int .i64 (S:Int),.int .i64 (K:Int),.slice D v q]] w (BytesPost 5 (keyE ⟨row,F,qual,T,S,(K:Int),[]⟩) w):=by
 obtain ⟨z1,z2,z3,z4,z5,z6,-⟩:=checkN_ok hz
 have HN:Hid (n≤256∧m≤256∧T≤1099511627776∧S≤17592186044431):=Lib.hid (by omega)
 have HR:Hid (∀ x,Below w.heap.size w x→Sl x A n c row):=Lib.hid fun x h=>hrow.later h
 have HQ:Hid (∀ x,Below w.heap.size w x→Sl x B m d qual):=Lib.hid fun x h=>hqual.later h
 have HLEN:Hid ((ordB row).length≤514∧(ordB qual).length≤514):=Lib.hid (by
  have h1:=ordB_len row;have h2:=ordB_len qual;have h3:=hrow.len;have h4:=hqual.len;omega)
 have HX0:=Lib.hid (Bx.new w #[.slice A n c,.int .i64 (F:Int),.slice B m d,.int .i64 (T:Int),.int .i64 (S:Int),.int .i64 (K:Int),.slice D v q] 60)
 have hkk5:((K:Int) == 5)=false:=by rw [beq_eq_false_iff_ne];omega
 have hkk4:((K:Int) == 4)=false:=by rw [beq_eq_false_iff_ne];omega
 have HK5:=Lib.hid hk5
 have HK4:=Lib.hid hk4
 clear hk5 hk4
 clear hz z1 z2 z3 z4 z5 z6 hrow hqual
 have tO1:True:=trivial
 have tA1:True:=trivial
 have tA2:True:=trivial
 have tF1:True:=trivial
 have tA5:True:=trivial
 have tA6:True:=trivial
 have tO2:True:=trivial
 have tA3:True:=trivial
 have tA4:True:=trivial
 go_enter Tryz.func119,Tryz.ntmps119
 go_wp2_with (first
  | (go_at_call 171;have _t:=tO1;go_must (refine (rOrdered_any row A n c _ (by have:=HN.out;omega) (HR.out _ HX0.out.up).rb).mono ?_);rintro e x1 ⟨A1,c1,rfl,hO1,hb1⟩;have HX1:=Lib.hid (HX0.out.later hb1);have HO1:=Lib.hid (own_low hO1 HX0.out.size);clear hO1 hb1 tO1;have q1_1:=HX1.out.cell (i:=1) (v := .int .i64 (F:Int)) rfl)
  | (at_builtin;have _t:=tA1;go_must (refine wpList_append_reads _ rfl (.tmp 12) (.tmp 16) rfl Tryz.u8s' (w.heap.size + 1) (.slice A1 (ordB row).length c1) ((ordB row).length) (u8s (ordB row)) rfl (HO1.out.alloc _) (x1.heap.size + 1) (some ⟨x1.heap.size,0,none⟩) 1 1 (u8s ([UInt8.ofNat F])) rfl (by exact reads_lit x1 _ ([UInt8.ofNat F]) _ _ (by show [_]=[u8v _];rw [u8v_mod])) (u8s_one _) (by have:=HLEN.out;unfold maxLen;omega) (by have:=HLEN.out;omega) (by have:=HX1.out.size;simp;omega) ?_);intro v2 x2 hown hg hat;clear tA1;have HX2:=Lib.hid ((HX1.out.alloc _).grow (HO1.out.alloc _) hg);rw [← u8s_append] at hown;have HO2:=Lib.hid hown;clear hown hg hat;have q2_5:=HX2.out.cell (i:=5) (v := .int .i64 (K:Int)) rfl)
  | (at_builtin;have _t:=tA2;go_must (refine wpList_append_reads _ rfl (.tmp 24) (.tmp 25) rfl Tryz.u8s' (w.heap.size + 1) v2 ((ordB row).length + 1) (u8s ((ordB row) ++ [UInt8.ofNat F])) rfl (HO2.out.alloc _) (x2.heap.size + 1) (some ⟨x2.heap.size,0,none⟩) 1 1 (u8s ([1])) rfl (by exact reads_lit x2 _ ([1]) _ _ (by rfl)) (u8s_one _) (by have:=HLEN.out;unfold maxLen;omega) (by have:=HLEN.out;omega) (by have:=HX2.out.size;simp;omega) ?_);intro v3 x3 hown hg hat;clear tA2;have HX3:=Lib.hid ((HX2.out.alloc _).grow (HO2.out.alloc _) hg);rw [← u8s_append] at hown;have HO3:=Lib.hid hown;clear hown hg hat;have q3_2:=HX3.out.cell (i:=2) (v := .slice B m d) rfl)
  | (go_at_call 171;have _t:=tO2;go_must (refine (rOrdered_any qual B m d _ (by have:=HN.out;omega) (HQ.out _ HX3.out.up).rb).mono ?_);rintro e x4 ⟨A4,c4,rfl,hO4,hb4⟩;have HX4:=Lib.hid (HX3.out.later hb4);have HO4:=Lib.hid (own_below HO3.out hb4);have HR4:=Lib.hid (RB.own hO4);clear hO4 hb4 tO2)
  | (at_builtin;have _t:=tA3;go_must (refine wpList_append_reads _ rfl (.tmp 27) (.tmp 30) rfl Tryz.u8s' (w.heap.size + 1) v3 ((ordB row).length + 1 + 1) (u8s (((ordB row) ++ [UInt8.ofNat F]) ++ [1])) rfl HO4.out x4.heap.size A4 (ordB qual).length c4 (u8s (ordB qual)) rfl HR4.out (u8s_one _) (by have:=HLEN.out;unfold maxLen;omega) (by have:=HLEN.out;omega) (by have:=HX4.out.size;omega) ?_);intro v5 x5 hown hg hat;clear tA3;have HX5:=Lib.hid (HX4.out.grow HO4.out hg);rw [← u8s_append] at hown;have HO5:=Lib.hid hown;clear hown hg hat;have q5_5:=HX5.out.cell (i:=5) (v := .int .i64 (K:Int)) rfl)
  | (at_builtin;have _t:=tA4;go_must (refine wpList_append_reads _ rfl (.tmp 35) (.tmp 37) rfl Tryz.u8s' (w.heap.size + 1) v5 ((ordB row).length + 1 + 1 + (ordB qual).length) (u8s ((((ordB row) ++ [UInt8.ofNat F]) ++ [1]) ++ ordB qual)) rfl (HO5.out.alloc _) (x5.heap.size + 1) (some ⟨x5.heap.size,0,none⟩) 1 1 (u8s ([1])) rfl (by exact reads_lit x5 _ ([1]) _ _ (by rfl)) (u8s_one _) (by have:=HLEN.out;unfold maxLen;omega) (by have:=HLEN.out;omega) (by have:=HX5.out.size;simp;omega) ?_);intro v6 x6 hown hg hat;clear tA4;have HX6:=Lib.hid ((HX5.out.alloc _).grow (HO5.out.alloc _) hg);rw [← u8s_append] at hown;have HO6:=Lib.hid hown;clear hown hg hat;have q6_3:=HX6.out.cell (i:=3) (v := .int .i64 (T:Int)) rfl)
  | (go_at_call 172;have _t:=tF1;go_must (refine (rFalling_at T _ (by have:=HN.out;omega)).mono ?_);rintro e x7 ⟨A7,c7,rfl,hO7,hb7⟩;have HX7:=Lib.hid (HX6.out.later hb7);have HO7:=Lib.hid (own_below HO6.out hb7);have HT7:=Lib.hid hO7;clear hO7 hb7 tF1;have q7_4:=HX7.out.cell (i:=4) (v := .int .i64 (S:Int)) rfl)
  | (go_at_call 172;go_must (refine (rFalling_at S _ (by have:=HN.out;omega)).mono ?_);rintro e x8 ⟨A8,c8,rfl,hO8,hb8⟩;have HX8:=Lib.hid (HX7.out.later hb8);have HO8:=Lib.hid (own_below HO7.out hb8);have HS8:=Lib.hid hO8;have HR8:=Lib.hid (RB.own (own_below HT7.out hb8));clear hO8 hb8)
  | (at_builtin;have _t:=tA5;go_must (refine wpList_append_reads _ rfl (.tmp 51) (.tmp 52) rfl Tryz.u8s' (w.heap.size + 1) v6 ((ordB row).length + 1 + 1 + (ordB qual).length + 1) (u8s (((((ordB row) ++ [UInt8.ofNat F]) ++ [1]) ++ ordB qual) ++ [1])) rfl HO8.out x8.heap.size A7 8 c7 (u8s (numK T)) rfl HR8.out (u8s_one _) (by have:=HLEN.out;unfold maxLen;omega) (by have:=HLEN.out;omega) (by have:=HX8.out.size;omega) ?_);intro v9 x9 hown hg hat;clear tA5;have HR9:=Lib.hid (RB.own (own_aside HS8.out HO7.out (Nat.le_refl _) hg));have HX9:=Lib.hid (HX8.out.grow HO8.out hg);rw [← u8s_append] at hown;have HO9:=Lib.hid hown;clear hown hg hat;have q9_5:=HX9.out.cell (i:=5) (v := .int .i64 (K:Int)) rfl)
  | (at_builtin;have _t:=tA6;go_must (refine wpList_append_reads _ rfl (.tmp 54) (.tmp 55) rfl Tryz.u8s' (w.heap.size + 1) v9 ((ordB row).length + 1 + 1 + (ordB qual).length + 1 + 8) (u8s ((((((ordB row) ++ [UInt8.ofNat F]) ++ [1]) ++ ordB qual) ++ [1]) ++ numK T)) rfl HO9.out x9.heap.size A8 8 c8 (u8s (numK S)) rfl HR9.out (u8s_one _) (by have:=HLEN.out;unfold maxLen;omega) (by have:=HLEN.out;omega) (by have:=HX9.out.size;omega) ?_);intro va xa hown hg hat;clear tA6;have HXa:=Lib.hid (HX9.out.grow HO9.out hg);rw [← u8s_append] at hown;have HOa:=Lib.hid hown;clear hown hg hat;have q10_5:=HXa.out.cell (i:=5) (v := .int .i64 (K:Int)) rfl)
  | (at_builtin;go_must (refine wpList_append_reads _ rfl (.tmp 57) (.tmp 61) rfl Tryz.u8s' (w.heap.size + 1) va ((ordB row).length + 1 + 1 + (ordB qual).length + 1 + 8 + 8) (u8s (((((((ordB row) ++ [UInt8.ofNat F]) ++ [1]) ++ ordB qual) ++ [1]) ++ numK T) ++ numK S)) rfl (HOa.out.alloc _) (xa.heap.size + 1) (some ⟨xa.heap.size,0,none⟩) 1 1 (u8s ([UInt8.ofNat K])) rfl (by exact reads_lit xa _ ([UInt8.ofNat K]) _ _ (by show [_]=[u8v _];rw [u8v_mod])) (u8s_one _) (by have:=HLEN.out;unfold maxLen;omega) (by have:=HLEN.out;omega) (by have:=HXa.out.size;simp;omega) ?_);intro vb xb hown hg hat;have HXb:=Lib.hid ((HXa.out.alloc _).grow (HOa.out.alloc _) hg);rw [← u8s_append] at hown;have HOb:=Lib.hid hown;clear hown hg hat))
 go_ret
 have hf:((((((((ordB row) ++ [UInt8.ofNat F]) ++ [1]) ++ ordB qual) ++ [1]) ++ numK T) ++ numK S) ++ [UInt8.ofNat K])=keyE ⟨row,F,qual,T,S,(K:Int),[]⟩:=by
  unfold keyE tailK qualK
  have a5:¬ ((K:Int)=5):=by have:=HK5.out;omega
  have e5:((K:Int) == 5)=false:=hkk5
  have e4:((K:Int) == 4)=false:=hkk4
  rw [if_neg a5]
  simp only [e5,e4]
  simp [flg]
 have:=HOb.out
 rw [hf] at this
 exact bytes_post (own_low this (Nat.le_succ _)) HXb.out.up
theorem rkey_any (e:Ent) (hz:checkE e=0) (A:Option Addr) (n c:Nat) (B:Option Addr) (m d:Nat) (D:Option Addr) (v q:Nat) (w:World) (h:En w A n c B m d D v q e) :
  Calls Tryz.prog 119 #[entV A n c B m d D v q e] w (BytesPost 5 (keyE e) w):=by
 obtain ⟨row,f,qual,t,s,k,val⟩:=e
 have hl1:row.length=n:=h.row.len
 have hl2:qual.length=m:=h.qual.len
 have hl3:val.length=v:=h.val.len
 have hc:checkE ⟨row,f,qual,t,s,k,val⟩=checkN n f m t s k v:=by unfold checkE;simp only [hl1,hl2,hl3]
 rw [hc] at hz
 obtain ⟨z1,z2,z3,z4,z5,z6,-⟩:=checkN_ok hz
 obtain ⟨F,rfl⟩:∃ F:Nat,f=F:=⟨f.toNat,by omega⟩
 obtain ⟨T,rfl⟩:∃ T:Nat,t=T:=⟨t.toNat,by omega⟩
 obtain ⟨S,rfl⟩:∃ S:Nat,s=S:=⟨s.toNat,by omega⟩
 obtain ⟨K,rfl⟩:∃ K:Nat,k=K:=⟨k.toNat,by omega⟩
 by_cases hk:K=5
 ·subst hk
  exact rkey_five row qual A n c F B m d T S D v q w h.row h.qual hz
 ·by_cases hk4:K=4
  ·subst hk4
   exact rkey_four row qual A n c F B m d T S D v q w h.row h.qual hz
  ·exact rkey_more row qual A n c F B m d T S K D v q w h.row h.qual hz hk hk4
set_option maxRecDepth 100000 in
set_option maxHeartbeats 1000000 in
theorem rKey_any (e:Ent) (A:Option Addr) (n c:Nat) (B:Option Addr) (m d:Nat) (D:Option Addr) (v q:Nat) (w:World) (h:En w A n c B m d D v q e) :
  Calls Tryz.prog 58 #[entV A n c B m d D v q e] w (BytesPost2 5 (KeyE e).1 (KeyE e).2 w):=by
 have hl1:=h.row.len
 have hl2:=h.qual.len
 have hl3:=h.val.len
 have HC:Hid (checkN n e.fam m e.ts e.seq e.kind v=checkE e):=Lib.hid (by unfold checkE;simp only [hl1,hl2,hl3])
 have HX0:=Lib.hid (Bx.new w #[.slice A n c,.int .i64 e.fam,.slice B m d,.int .i64 e.ts,.int .i64 e.seq,.int .i64 e.kind,.slice D v q] 60)
 obtain ⟨z,hz⟩:∃ z,z=checkE e:=⟨_,rfl⟩
 have HZ:=Lib.hid hz
 unfold KeyE
 rw [← hz]
 unfold entV
 by_cases h0:z=0
 ·subst h0
  have HK:Hid (∀ x,Below w.heap.size w x→Calls Tryz.prog 119 #[.agg #[.slice A n c,.int .i64 e.fam,.slice B m d,.int .i64 e.ts,.int .i64 e.seq,.int .i64 e.kind,.slice D v q]] x (BytesPost 5 (keyE e) x)):=Lib.hid fun x hx=>rkey_any e hz.symm A n c B m d D v q x (h.later hx)
  rw [if_pos rfl]
  clear hz h hl1 hl2 hl3
  go_enter Tryz.func58,Tryz.ntmps58
  go_wp2_with (first
   | (go_at_call 96;go_must (refine (rCheck_any _ _ _ _ _ _ _ _ _ _ _ _ _ _).mono ?_);rintro e' x1 ⟨rfl,hb1⟩;rw [HC.out,← HZ.out];have HX1:=Lib.hid (HX0.out.later hb1);clear hb1 HX0;have q0:=HX1.out.cell (i:=0) (v := .slice A n c) rfl;have q1:=HX1.out.cell (i:=1) (v := .int .i64 e.fam) rfl;have q2:=HX1.out.cell (i:=2) (v := .slice B m d) rfl;have q3:=HX1.out.cell (i:=3) (v := .int .i64 e.ts) rfl;have q4:=HX1.out.cell (i:=4) (v := .int .i64 e.seq) rfl;have q5:=HX1.out.cell (i:=5) (v := .int .i64 e.kind) rfl;have q6:=HX1.out.cell (i:=6) (v := .slice D v q) rfl)
   | (go_at_call 119;go_must (refine (HK.out _ HX1.out.up).mono ?_);rintro e' x2 ⟨A2,c2,rfl,hO2,hb2⟩;have HO2:=Lib.hid hO2;have HB2:=Lib.hid (HX1.out.up.trans (hb2.mono HX1.out.up.size));clear hO2 hb2))
  go_ret2
  exact ⟨A2,c2,rfl,HO2.out.rebase HX1.out.up.size,HB2.out⟩
 ·rw [if_neg h0]
  have hd:(z != 0)=true:=by rw [bne_iff_ne];exact h0
  clear hz h hl1 hl2 hl3 h0
  go_enter Tryz.func58,Tryz.ntmps58
  go_wp2_with (go_at_call 96;go_must (refine (rCheck_any _ _ _ _ _ _ _ _ _ _ _ _ _ _).mono ?_);rintro e' x1 ⟨rfl,hb1⟩;rw [HC.out,← HZ.out];have HX1:=Lib.hid (HX0.out.later hb1);clear hb1 HX0)
  go_ret2
  exact bytes_none2 HX1.out.up
end Go.Proofs.YtfdbcfaeiglbeaaGreatDoor
namespace Go.Proofs.YtfdbcfaeiglbeaaGreatDoor
open Go.RowKit
section
variable {T : TypeId} {w x y : World} {bs : List Bx1} {rs : RowL} {i g : Nat} {cs vs : List Value}
theorem Lng.aside {x0:World} {A A':Option Addr} {c c' n g i j:Nat} {m:UInt8} {l l':List UInt8} (L:Lng x0 A n m g x) (h:St T w bs rs x0) (hi:rs[i]?=some (A,c,l)) (hj:rs[j]?=some (A',c',l')) (hne:i ≠ j) (hc:Chg (fun b=>A'.map (·.block)=some b) x y):Lng x0 A n m g y:=by
 refine L.chg hc fun b e=>?_
 cases A' with
 | none=>cases e
 | some a =>
  injection e with e
  have e:a.block=b:=e
  subst e
  refine ⟨((h.rows.1 j _ hj).lt rfl).2,fun e=>?_⟩
  cases A with
  | none=>cases e
  | some a' =>
   injection e with e
   exact h.rows.2 i j _ _ hi hj hne a' a rfl rfl e
end
section
variable {P : Program} {ops : Array Oper} {Q : Exit → Act → World → Prop}
end
end Go.Proofs.YtfdbcfaeiglbeaaGreatDoor
namespace Go.Proofs.YtfdbcfaeiglbeaaGreatDoor
open Go.RowKit
def Parts.slots (p:Parts):List Nat:=(List.range p.k).flatMap fun j=>[p.s j,p.u j,p.t j]
section
variable {P : Program} {Q : Exit → Act → World → Prop} {T : TypeId} {w : World} {bs : List Bx1} {rs : RowL}
variable {p : Parts} {n m : Nat} {arg : Nat → List Value} {Pst : Nat → Value → RowL → Prop} {l : List Oper} {f0 : Act} {o : Oper} {j : Nat}
end
end Go.Proofs.YtfdbcfaeiglbeaaGreatDoor
namespace Go.Proofs.YtfdbcfaeiglbeaaGreatDoor
open Go.RowKit
def ER.New (B:Nat) (r:ER):Prop:=(∀ a,r.A=some a→B≤a.block)∧(∀ a,r.B=some a→B≤a.block)∧∀ a,r.D=some a→B≤a.block
theorem ER.New.mono {B B':Nat} {s:ER} (h:s.New B) (hb:B'≤B):s.New B':=⟨fun a ha=>Nat.le_trans hb (h.1 a ha),fun a ha=>Nat.le_trans hb (h.2.1 a ha),fun a ha=>Nat.le_trans hb (h.2.2 a ha)⟩
end Go.Proofs.YtfdbcfaeiglbeaaGreatDoor
namespace Go.Proofs.YtfdbcfaeiglbeaaGreatDoor
open Go.RowKit
theorem pairs7S:SliceOf Tryz.prog 65 117 2 16:=SliceOf.mk' (z := .agg #[.int .i64 0,.int .i64 0]) Tryz.underlying65 (by kernel_rfl) rfl (by decide)
def pairV (r:PRec):List Value:=[.int .i64 r.p.lo,.int .i64 r.p.hi]
theorem pairV_snoc {rs:List PRec} {n:Nat} {r:PRec} (h:rs[n]?=some r):(rs.take (n + 1)).flatMap pairV=(rs.take n).flatMap pairV ++ [.int .i64 r.p.lo,.int .i64 r.p.hi]:=by
 rw [take_snoc h,List.flatMap_append];rfl
set_option maxRecDepth 1000000 in
set_option maxHeartbeats 4000000 in
theorem blocks_any (q:RunRec) (w:World) (h:RunAt q w) (hn:q.rs.length≤1000000000) :
  Calls Tryz.prog 29 #[.pointer (some ⟨q.g,0,none⟩)] w fun e z=>∃ (LA:Option Addr) (lc:Nat),e = .returned (.slice LA q.rs.length lc)∧OW w [rowO 117 2 (.slice LA q.rs.length lc) q.rs.length (q.rs.flatMap pairV)] z:=by
 have HC9:Hid (∀ z,Below w.heap.size w z→z.cell? ⟨q.g,9,none⟩=some (.slice q.PA q.rs.length q.pc)):=Lib.hid fun z hz=>(h.later hz).cell (j:=9) rfl
 have HPR:Hid (∀ (k:Nat) (r:PRec),q.rs[k]?=some r→∃ g3,q.PA=some ⟨g3,0,none⟩∧∀ z,Below w.heap.size w z→z.rangeAt g3 (k * 4) r.cells):=Lib.hid fun k r hk=>by
  obtain ⟨g3,h1,_⟩:=h.partR hk
  refine ⟨g3,h1,fun z hz=>?_⟩
  obtain ⟨g4,h2,h3⟩:=(h.later hz).partR hk
  rw [h1] at h2;injection h2 with h2;injection h2 with h2 _ _;subst h2;exact h3
 have HX0:Hid (OW w (rowO 117 2 (.slice none 0 0) 0 []::[]) w):=Lib.hid ((OW.nil w).nilRow 117 2)
 clear h
 go_enter Tryz.func29,Tryz.ntmps29
 go_wp2_with (refine wpList_load_cell rfl 133 (.tmp 8) rfl rfl (HC9.out _ HX0.out.up) Tryz.isAgg133 ?_)
 -- the loop over the parts: slots 3 (the list) and 11 (the index)
 go_loopw [3,5,11] (fun lv _ iv wr=>∃ (n:Nat) (LA:Option Addr) (lc:Nat),n≤q.rs.length∧iv = .int .i64 n∧lv = .slice LA n lc∧Hid (OW w [rowO 117 2 (.slice LA n lc) n ((q.rs.take n).flatMap pairV)] wr)) (fun _ _ iv _=>q.rs.length - (intOf iv).toNat)
 case atStart=>exact ⟨0,none,0,Nat.zero_le _,rfl,rfl,HX0⟩
 case round =>
  clear HX0
  obtain ⟨n,LA,lc,hnm,rfl,rfl,HX⟩:=hrel
  by_cases hlt:n < q.rs.length
  case neg =>
   have hd:decide ((n:Int) < (q.rs.length:Int))=false:=decide_eq_false (by omega)
   obtain rfl:n=q.rs.length:=by omega
   go_wp2_with fail
   go_ret
   exact ⟨LA,lc,rfl,by have:=HX.out;rwa [List.take_length] at this⟩
  have hd:decide ((n:Int) < (q.rs.length:Int))=true:=decide_eq_true (by omega)
  obtain ⟨r,hr⟩:∃ r,q.rs[n]?=some r:=⟨_,List.getElem?_eq_getElem hlt⟩
  obtain ⟨g3,hPA,hcs⟩:=HPR.out n r hr
  have HCS:=Lib.hid hcs
  have HSN:=Lib.hid (pairV_snoc hr)
  have i1:(0:Int)≤(n:Int):=by omega
  have i2:(n:Int) < (q.rs.length:Int):=by omega
  clear hcs hr
  go_wp2_with (first
   | (refine wpList_load_at rfl 137 (.tmp 13) rfl rfl (HCS.out _ HX.out.up) part_row ?_)
   | (refine wl_alloc rfl rfl [.slice none 0 0,.slice none 0 0,.int .i64 0,.int .i64 0] (.inl (by kernel_rfl)) HX.out ?_;intro g4 x4 hz _;have HX4:Hid (OW w [rowO 117 2 (.slice LA n lc) n ((q.rs.take n).flatMap pairV),boxO g4 [.slice none 0 0,.slice none 0 0,.int .i64 0,.int .i64 0]] x4):=Lib.hid hz;clear hz HX)
   | (refine wl_put rfl (.tmp 5) (.tmp 14) rfl HX4.out 1 rfl rfl r.cells rfl rfl (by kernel_rfl) (by simp [PRec.cells,Value.oneCell']) ?_;intro x5 hz _;have HX5:Hid (OW w [rowO 117 2 (.slice LA n lc) n ((q.rs.take n).flatMap pairV),boxO g4 r.cells] x5):=Lib.hid hz;clear hz HX4)
   | (refine wpList_load_cell rfl 3 (.tmp 16) rfl rfl (HX5.out.cell (i:=1) (j:=2) rfl rfl) Tryz.isAgg3 ?_)
   | (refine wpList_load_cell rfl 3 (.tmp 18) rfl rfl (HX5.out.cell (i:=1) (j:=3) rfl rfl) Tryz.isAgg3 ?_)
   | (refine wl_build rfl #[(0,.tmp 20)] rfl #[.int .i64 r.p.lo,.int .i64 r.p.hi] pairs7S (.agg #[.int .i64 0,.int .i64 0]) (by kernel_rfl) (by decide) (by decide) (by decide) rfl (by first | rfl | kernel_rfl) HX5.out ?_;intro g6 x6 hz _;have HX6:Hid (OW w [rowO 117 2 (.slice LA n lc) n ((q.rs.take n).flatMap pairV),boxO g4 r.cells,rowO 117 2 (.slice (some ⟨g6,0,none⟩) 1 1) 1 [.int .i64 r.p.lo,.int .i64 r.p.hi]] x6):=Lib.hid hz;clear hz HX5)
   | (at_builtin;go_must (refine wl_append rfl (.tmp 15) (.tmp 21) rfl pairs7S HX6.out 0 rfl rfl _ (some ⟨g6,0,none⟩) 1 1 [.int .i64 r.p.lo,.int .i64 r.p.hi] rfl (Reads.own (HX6.out.row (i:=2) rfl)) (by simp [Value.oneCell']) (by unfold maxLen;omega) (by omega) ?_);intro A7 c7 x7 hz _;have HX7:Hid (OW w [rowO 117 2 (.slice A7 (n + 1) c7) (n + 1) ((q.rs.take n).flatMap pairV ++ [.int .i64 r.p.lo,.int .i64 r.p.hi])] x7):=Lib.hid (OW.left hz);clear hz HX6))
  rw [← hPA]
  go_roundw
  case rel=>exact ⟨n + 1,A7,c7,by omega,by go_num,rfl,Lib.hid (by rw [HSN.out];exact HX7.out)⟩
  case measure=>simp [intOf];omega
end Go.Proofs.YtfdbcfaeiglbeaaGreatDoor
