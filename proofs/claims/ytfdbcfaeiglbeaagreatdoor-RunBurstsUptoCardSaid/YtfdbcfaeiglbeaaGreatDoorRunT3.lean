/-
 Layer 7: RunBursts. (Printed by gen_runt1.py.)
-/
import Derived.Test.YtfdbcfaeiglbeaaGreatDoorRunT1
import Derived.Test.YtfdbcfaeiglbeaaGreatDoorRXB
namespace Go.Proofs.YtfdbcfaeiglbeaaGreatDoor
open Go.RowKit
set_option maxRecDepth 1000000 in
set_option maxHeartbeats 16000000 in
theorem burstsL_any (oa:OptR) (es:List Ent) (A:Option Addr) (n c:Nat) (at':Int) (P:Nat) (w:World) (hes:Ens w A n es) (hn:n≤1048576)
  (hel:∀ e,e ∈ es→e.row.length≤1048576∧e.qual.length≤1048576∧e.val.length≤1048576) (ht:TabAt 0 w) (hP:P < 4294967296) :
  Calls Tryz.prog 10 #[optV oa,.slice A n c,.int .i64 at',.int .u32 P] w fun e z=>e = .returned (.bool true)∧Below w.heap.size w z:=by
 obtain ⟨rs0,hrs0,hrd0,hen0⟩:=hes
 have HRD:Hid (∀ z,Below w.heap.size w z→Reads z w.heap.size 7 A n (rs0.flatMap ER.cells)):=Lib.hid fun z hz=>hrd0.below hz
 have HEN:Hid (∀ z,Below w.heap.size w z→∀ r,r ∈ rs0→r.En z):=Lib.hid fun z hz r hr=>(hen0 r hr).later hz
 have HRS:=Lib.hid hrs0
 have HTB:Hid (∀ z,Below w.heap.size w z→TabAt 0 z):=Lib.hid fun z hz=>ht.later hz
 have HFL:Hid (∀ e,e ∈ firstE::es→e.row.length≤140737488355000∧e.qual.length≤140737488355000∧e.val.length≤140737488355000):=Lib.hid (first_len hel)
 obtain ⟨v0,v1,v2,v3,v4,hv⟩:∃ v0 v1 v2 v3 v4,optF oa=⟨v0,v1,v2,v3,v4⟩:=⟨_,_,_,_,_,rfl⟩
 have HOA:Hid (optV (optF oa) = .agg #[.int .i64 v0,.int .i64 v1,.int .i64 v2,.int .i64 v3,.int .i64 v4]):=Lib.hid (by rw [hv];rfl)
 have HKA:Hid (optOk ⟨v0,v1,1099511627776,v3,v4⟩=true):=Lib.hid (by have h:=optX_ok oa;unfold optX at h;rw [hv] at h;exact h)
 obtain ⟨L,hL⟩:∃ L,L=ordL 1099511627776 ((firstE::es).take 120):=⟨_,rfl⟩
 have HL:=Lib.hid hL.symm
 have HLN:Hid (L ≠ []):=Lib.hid (by rw [hL];exact ordL_ne (by decide) es)
 have HOL:Hid (OrdOk 1099511627776 L):=Lib.hid (by rw [hL];exact ord_ok _ _)
 have HL1:Hid (L.length≤120):=Lib.hid (by rw [hL];exact Nat.le_trans (ord_len _ _) (by rw [List.length_take];omega))
 have HRA:Hid (refuseR ⟨v0,v1,1099511627776,v3,v4⟩ L=0):=Lib.hid (refuse_of HKA.out HLN.out HOL.out)
 have HSA:Hid ((runBy ⟨v0,v1,1099511627776,v3,v4⟩ L).length≤16777216):=Lib.hid (run_small HRA.out (by have:=HL1.out;omega))
 obtain ⟨xb,hxb⟩:∃ x,x=runBy ⟨v0,v1,1099511627776,v3,v4⟩ L:=⟨_,rfl⟩
 have HXB:=Lib.hid hxb.symm
 have HXP:Hid (0 < xb.length∧xb.length≤16777216):=Lib.hid (by rw [hxb];exact ⟨runC_ne _ _,HSA.out⟩)
 have HX:=Lib.hid (OW.nil w)
 clear hrd0 hen0 hrs0 hel ht hv hL hxb
 unfold optV
 go_enter Tryz.func10,Tryz.ntmps10
 go_wp2_with (first
  | (refine wl_box rfl (.tmp 0) rfl [.int .i64 oa.block,.int .i64 oa.bits,.int .i64 oa.index,.int .i64 oa.low,.int .i64 oa.clock] rfl HX.out ?_;intro g1 x1 hz _;have HX1:Hid (OW w [boxO g1 [.int .i64 oa.block,.int .i64 oa.bits,.int .i64 oa.index,.int .i64 oa.low,.int .i64 oa.clock]] x1):=Lib.hid hz;clear hz HX)
  | (refine wl_rowR rfl 23 (.tmp 4) rfl rfl (HX1.out.range (i:=0) rfl) opts_row ?_)
  | (go_at_call 25;go_must (refine (options_any oa _).mono ?_);rw [HOA.out];rintro e x2 ⟨rfl,hb⟩;have HX2:=Lib.hid (HX1.out.later hb);clear hb HX1)
  | (refine wl_alloc rfl rfl [.int .i64 0,.int .i64 0,.int .i64 0,.int .i64 0,.int .i64 0] (.inl (by kernel_rfl)) HX2.out ?_;intro g2 x3 hz _;have HX3:Hid (OW w [boxO g1 [.int .i64 oa.block,.int .i64 oa.bits,.int .i64 oa.index,.int .i64 oa.low,.int .i64 oa.clock],boxO g2 [.int .i64 0,.int .i64 0,.int .i64 0,.int .i64 0,.int .i64 0]] x3):=Lib.hid hz;clear hz HX2)
  | (refine wl_put rfl (.tmp 9) (.tmp 18) rfl HX3.out 1 rfl rfl [.int .i64 v0,.int .i64 v1,.int .i64 v2,.int .i64 v3,.int .i64 v4] rfl rfl (by kernel_rfl) (by simp [Value.oneCell']) ?_;intro x4 hz _;have HX4:Hid (OW w [boxO g1 [.int .i64 oa.block,.int .i64 oa.bits,.int .i64 oa.index,.int .i64 oa.low,.int .i64 oa.clock],boxO g2 [.int .i64 v0,.int .i64 v1,.int .i64 v2,.int .i64 v3,.int .i64 v4]] x4):=Lib.hid hz;clear hz HX3)
  | (refine wl_put1 rfl (.tmp 19) (.const (.int .i64 1099511627776)) rfl HX4.out 1 rfl 2 rfl (by simp) _ rfl (by kernel_rfl) rfl ?_;intro x5 hz _;have HX5:Hid (OW w [boxO g1 [.int .i64 oa.block,.int .i64 oa.bits,.int .i64 oa.index,.int .i64 oa.low,.int .i64 oa.clock],boxO g2 [.int .i64 v0,.int .i64 v1,.int .i64 1099511627776,.int .i64 v3,.int .i64 v4]] x5):=Lib.hid hz;clear hz HX4))
 refine lt_start [] (by kernel_rfl) ?_
 intro xd hd
 refine ⟨fun z=>OW w [boxO g1 [.int .i64 oa.block,.int .i64 oa.bits,.int .i64 oa.index,.int .i64 oa.low,.int .i64 oa.clock],boxO g2 [.int .i64 v0,.int .i64 v1,.int .i64 1099511627776,.int .i64 v3,.int .i64 v4]] z,?_⟩
 have HS:=Lib.hid (HX5.out.later hd)
 refine lp2 2 rfl (fun _=>HS.out) ?_
 simp only [Act.put,ls]
 refine lp2 4 rfl (fun _=>HS.out) ?_
 simp only [Act.put,ls]
 refine lq 5 [6,7] rfl (yi_cell rfl rfl rfl (fun w hS=>OW.cell hS (i:=1) (j:=2) rfl rfl) Tryz.isAgg3) HS.out ?_
 simp only [Act.put,ls]
 refine lt_call 0 rfl (by kernel_rfl) rfl rfl ⟨_,Tryz.func39,by decide,by kernel_rfl⟩ [] rfl ?_
 refine (first_any _).mono ?_
 rintro e x6 ⟨FA,FB,FD,rfl,hen,hb⟩
 have HFE:Hid (∀ z,Below x6.heap.size x6 z→En z FA 1 1 FB 1 1 FD 1 1 firstE):=Lib.hid fun z hz=>hen.later hz
 replace HS:=Lib.hid (HS.out.later hb)
 have HN6:=Lib.hid (OW.nil x6)
 clear hen hb
 refine ⟨_,rfl,fun _=>HS.out,?_⟩
 simp only [Act.put,ls]
 refine lt_op 1 rfl (by kernel_rfl) rfl ?_
 refine wpo_build rfl #[.slice FA 1 1,.int .i64 0,.slice FB 1 1,.int .i64 7,.int .i64 33,.int .i64 1,.slice FD 1 1] Tryz.entsS (.agg #[.slice none 0 0,.int .i64 0,.slice none 0 0,.int .i64 0,.int .i64 0,.int .i64 0,.slice none 0 0]) (by kernel_rfl) (by decide) (by decide) (by decide) rfl (by first | rfl | kernel_rfl) HN6.out ?_
 intro g7 x7 hz _
 have HR7:Hid (OW x6 [rowO 60 7 (.slice (some ⟨g7,0,none⟩) 1 1) 1 [.slice FA 1 1,.int .i64 0,.slice FB 1 1,.int .i64 7,.int .i64 33,.int .i64 1,.slice FD 1 1]] x7):=Lib.hid hz
 have HS6:=HS
 replace HS:=Lib.hid (HS.out.later hz.up)
 clear hz HN6
 refine ⟨fun _=>HS.out,?_⟩
 simp only [Act.put,ls]
 refine lt_op 3 rfl (by kernel_rfl) rfl ?_
 refine wpo_append (.tmp 21) (.tmp 22) rfl Tryz.entsS HR7.out 0 rfl rfl _ A n c (rs0.flatMap ER.cells) rfl (HRD.out _ HS.out.up) (cells7_one rs0) (by unfold maxLen;omega) (by omega) ?_
 intro A8 c8 x8 hz _
 have HR8:Hid (OW x6 [rowO 60 7 (.slice A8 (1 + n) c8) (1 + n) ([.slice FA 1 1,.int .i64 0,.slice FB 1 1,.int .i64 7,.int .i64 33,.int .i64 1,.slice FD 1 1] ++ rs0.flatMap ER.cells)] x8):=Lib.hid hz
 replace HS:=Lib.hid (HS6.out.later hz.up)
 clear hz HR7 HS6
 refine ⟨fun _=>HS.out,?_⟩
 simp only [Act.put,ls]
 refine lt_call 6 rfl (by kernel_rfl) rfl rfl ⟨_,Tryz.func38,by decide,by kernel_rfl⟩ [.slice A8 (1 + n) c8,.int .i64 1099511627776] rfl ?_
 have hE8:Ens x8 A8 (1 + n) (firstE::es):=by
  have h:=HR8.out.ens (rs:=⟨FA,1,FB,1,FD,1,firstE⟩::rs0) (i:=0) rfl (fun r hr=>by
   rcases List.mem_cons.1 hr with rfl | hr
   ·exact HFE.out _ HR8.out.up
   ·exact HEN.out _ HS.out.up r hr)
  rw [List.map_cons,HRS.out] at h
  exact h
 refine (ordered7_any 1099511627776 (by decide) (firstE::es) A8 (1 + n) c8 _ hE8 HFL.out).mono ?_
 rw [HL.out]
 rintro e x9 ⟨LA,lc,ll,rfl,hll,hE,hb⟩
 have HLE:Hid (∀ z,Below x9.heap.size x9 z→Ens z LA ll L):=Lib.hid fun z hz=>hE.later hz
 have HLL:Hid (L.length=ll):=Lib.hid hE.len
 replace HS:=Lib.hid (HS.out.later hb)
 clear hE hb hE8 HR8 HFE
 refine ⟨_,rfl,fun _=>HS.out,?_⟩
 simp only [Act.put,ls]
 refine lp2 7 rfl (fun _=>HS.out) ?_
 simp only [Act.put,ls]
 refine lt_done (by kernel_rfl) ?_
 have HX9:Hid (OW w [boxO g1 [.int .i64 oa.block,.int .i64 oa.bits,.int .i64 oa.index,.int .i64 oa.low,.int .i64 oa.clock],boxO g2 [.int .i64 v0,.int .i64 v1,.int .i64 1099511627776,.int .i64 v3,.int .i64 v4]] x9):=HS
 have HU9:=Lib.hid HX9.out.up
 clear HS HX5
 go_upto_region 5 with (first
  | (refine wl_rowR rfl 23 (.tmp 9) rfl rfl (HX9.out.range (i:=1) rfl) opts_row ?_)
  | (go_at_call 27;go_must (refine (made_yes ⟨v0,v1,1099511627776,v3,v4⟩ L LA ll lc _ (HLE.out _ (Below.refl _ _)) (by omega) HRA.out HSA.out (HTB.out _ HX9.out.up)).mono ?_);rw [HXB.out];rintro e x10 ⟨q,XA,xm,xcp,hq1,hq2,hxl,rfl,hz⟩;have HXL:=Lib.hid hxl;have HQ:=Lib.hid (And.intro hq1 hq2);have HXQ:Hid (OW x9 (bytO 5 (XA,xcp,xb)::q.obs) x10):=Lib.hid hz;clear hxl hq1 hq2 hz))
 obtain ⟨gx,hgx,_,_⟩:=ownB_some (HXQ.out.byt (i:=0) rfl) HXP.out.1
 subst hgx
 have HX10:Hid (OW x9 [bytO 5 (some ⟨gx,0,none⟩,xcp,xb)] x10):=Lib.hid (OW.left (os:=[bytO 5 (some ⟨gx,0,none⟩,xcp,xb)]) HXQ.out)
 have HCW:Hid (cutS xb 0 (xm - 0)=xb):=Lib.hid (by unfold cutS;rw [List.drop_zero,List.take_of_length_le (by rw [HXL.out];omega)])
 have hxm:0 < xm∧xm≤16777216:=by rw [← HXL.out];exact HXP.out
 have HLC:Hid (ll≤lc):=Lib.hid hll.2
 clear HXQ
 have hwb:=wholeI_in at' 0 (8 * (xm:Int) - 1) (by omega)
 obtain ⟨a,ha⟩:∃ a:Nat,(a:Int)=wholeI at' 0 (8 * (xm:Int) - 1):=⟨(wholeI at' 0 (8 * (xm:Int) - 1)).toNat,Int.toNat_of_nonneg hwb.1⟩
 have ha8:a < 8 * xm:=by rw [← ha] at hwb;omega
 have HWA:Hid (wholeI at' 0 (8 * (xm:Int) - 1)=(a:Int)):=Lib.hid ha.symm
 clear ha hwb
 go_wp2_with (first
  | (go_at_call 51;go_must (refine (part_any xb (some ⟨gx,0,none⟩) xm xcp 0 xm _ _ rfl rfl _ (HX10.out.sl (i:=0) rfl HXL.out) (Nat.zero_le _) (Nat.le_refl _) (by omega)).mono ?_);rw [HCW.out];rintro e x11 hp;obtain ⟨WA,wcp,rfl,_,ho,hb⟩:=hp.at_ HXL.out;have HX11:Hid (OW x9 [bytO 5 (some ⟨gx,0,none⟩,xcp,xb),bytO 5 (WA,wcp,xb)] x11):=Lib.hid (HX10.out.app (OW.byt1 hb ho));clear hp ho hb HX10)
  | (go_at_call 33;go_must (refine (whole_any at' 0 (8 * (xm:Int) - 1) (by omega) (by omega) (by omega) _).mono ?_);rw [HWA.out];rintro e x12 ⟨rfl,rfl⟩))
 obtain ⟨N8,hN8⟩:∃ z,z=8 * xm:=⟨_,rfl⟩
 have HN8:=Lib.hid hN8
 go_loopw [15,16] (fun nv _ wr=>∃ j:Nat,j≤32∧nv = .int .i64 j∧Hid (OW x9 [bytO 5 (some ⟨gx,0,none⟩,xcp,(flipsB xb (bz a N8 P j))),bytO 5 (WA,wcp,xb)] wr)) (fun nv _ _=>32 - (intOf nv).toNat)
 case atStart=>exact ⟨0,by omega,rfl,HX11⟩
 case round =>
  clear HX11
  obtain ⟨j,hj,rfl,HO⟩:=hrel
  by_cases hlt:j < 32
  case neg =>
   obtain rfl:j=32:=by omega
   have hd:decide ((32:Int) < 32)=false:=rfl
   obtain ⟨f2,hf2⟩:∃ x,x=flipsB xb (bz a N8 P 32):=⟨_,rfl⟩
   have HTO:Hid (Told (bz a N8 P 32)):=Lib.hid (told_burst _ _ _)
   rw [← hf2] at HO
   have HFX:Hid (flipsB (runBy ⟨v0,v1,1099511627776,v3,v4⟩ L) (bz a N8 P 32)=f2):=Lib.hid (by rw [HXB.out,hf2])
   have HF2:Hid (f2.length=xm):=Lib.hid (by rw [hf2,flipsB_length];exact HXL.out)
   have HSX:Hid (∀ z,Below wr.heap.size wr z→Sl z (some ⟨gx,0,none⟩) xm xcp f2):=Lib.hid fun z hz=>(HO.out.later hz).sl (i:=0) rfl HF2.out
   have HSW:Hid (Sl wr WA xm wcp xb):=Lib.hid (HO.out.sl (i:=1) rfl HXL.out)
   have HUP:Hid (Below w.heap.size w wr):=Lib.hid (HU9.out.trans (HO.out.up.mono HU9.out.size))
   have HLW:Hid (Ens wr LA ll L):=Lib.hid (HLE.out _ HO.out.up)
   clear hf2
   by_cases hne:f2=xb
   ·have XB:Hid ((xb == f2)=true):=Lib.hid (by rw [hne];simp)
    clear hne
    go_wp2_with (go_at_call 43;go_must (refine (rSame_any xb f2 WA (some ⟨gx,0,none⟩) xm wcp xm xcp _ HSW.out.rb (HSX.out _ (Below.refl _ _)).rb).mono ?_);rw [XB.out];rintro e y1 ⟨rfl,rfl⟩)
    go_ret
    exact ⟨rfl,HUP.out⟩
   ·have XB:Hid ((xb == f2)=false):=Lib.hid (by simp;exact fun h=>hne h.symm)
    have HNE:Hid (f2 ≠ runBy ⟨v0,v1,1099511627776,v3,v4⟩ L):=Lib.hid (by rw [HXB.out];exact hne)
    clear hne
    go_wp2_with (first
     | (go_at_call 43;go_must (refine (rSame_any xb f2 WA (some ⟨gx,0,none⟩) xm wcp xm xcp _ HSW.out.rb (HSX.out _ (Below.refl _ _)).rb).mono ?_);rw [XB.out];rintro e y1 ⟨rfl,rfl⟩)
     | (go_at_call 52;go_must (refine (tells7_any ⟨v0,v1,1099511627776,v3,v4⟩ L (bz a N8 P 32) HTO.out HRA.out (by have:=HL1.out;omega) HSA.out f2 HFX.out HNE.out (some ⟨gx,0,none⟩) xm xcp LA ll lc _ (HSX.out _ (Below.refl _ _)) HLW.out HLC.out (HTB.out _ HUP.out)).mono ?_);rintro e y2 ⟨rfl,hb⟩;have HU2:=Lib.hid (HUP.out.trans (hb.mono HUP.out.size));clear hb))
    go_ret
    exact ⟨rfl,HU2.out⟩
  have hdj:decide ((j:Int) < 32)=true:=decide_eq_true (by omega)
  have HBZ:=Lib.hid (bz_succ a N8 P j)
  have HPW:=Lib.hid (pat_walk P j hP)
  obtain ⟨Z,hZ⟩:∃ Z,Z=a + j:=⟨_,rfl⟩
  have hz:(a:Int) + (j:Int)=(Z:Int):=by omega
  have sw:IntKind.i64.wrap ((a:Int) + (j:Int))=(Z:Int):=by rw [i64_sum (by omega) (by omega)];exact hz
  have s8:IntKind.i64.wrap (8 * (xm:Int))=8 * (xm:Int):=i64_sum (by omega) (by omega)
  by_cases hk:a + j < N8
  case neg =>
   have hdk:decide ((Z:Int) < 8 * (xm:Int))=false:=decide_eq_false (by omega)
   have HN2:Hid (bz a N8 P (j + 1)=bz a N8 P j):=Lib.hid (by rw [HBZ.out,if_neg (fun h=>hk h.1),List.append_nil])
   clear hk hN8 hZ
   go_wp2_with fail
   go_roundw
   case rel=>exact ⟨j + 1,by omega,by go_num,by rw [HN2.out];exact HO⟩
   case measure=>simp [intOf];omega
  have hdk:decide ((Z:Int) < 8 * (xm:Int))=true:=decide_eq_true (by omega)
  cases hbit:P.testBit j
  ·have hb:(bits .and .u32 ((P:Int) / 2 ^ j) 1 == 1)=false:=by rw [HPW.out,hbit]
   have HN2:Hid (bz a N8 P (j + 1)=bz a N8 P j):=Lib.hid (by rw [HBZ.out,if_neg (fun h=>by rw [hbit] at h;cases h.2),List.append_nil])
   clear hbit hk hN8 hZ
   go_wp2_with fail
   go_roundw
   case rel=>exact ⟨j + 1,by omega,by go_num,by rw [HN2.out];exact HO⟩
   case measure=>simp [intOf];omega
  ·have hb:(bits .and .u32 ((P:Int) / 2 ^ j) 1 == 1)=true:=by rw [HPW.out,hbit]
   have HN2:Hid (bz a N8 P (j + 1)=bz a N8 P j ++ [(Z:Int)]):=Lib.hid (by rw [HBZ.out,if_pos ⟨hk,hbit⟩,hZ])
   obtain ⟨lp,hlp⟩:∃ x,x=flipsB xb (bz a N8 P j):=⟨_,rfl⟩
   have HNX:Hid (flipsB xb (bz a N8 P (j + 1))=flipB lp (Z:Int)):=Lib.hid (by rw [HN2.out,flipsB_snoc,hlp])
   have HLP:Hid (lp.length=xm):=Lib.hid (by rw [hlp,flipsB_length];exact HXL.out)
   have hZ8:Z < 8 * xm:=by omega
   rw [← hlp] at HO
   clear hlp hbit hk hN8 hZ
   go_upto_region 14 with fail
   obtain ⟨D,hD⟩:∃ D,D=Z / 8:=⟨_,rfl⟩
   obtain ⟨T,hT⟩:∃ T,T=Z % 8:=⟨_,rfl⟩
   have HF:Hid (flipB lp (Z:Int)=lp.set D (flipU (lp[D]?.getD 0) T)):=Lib.hid (by rw [flipB_set (by rw [HLP.out];exact hZ8),hD,hT])
   have hDn:D < xm:=by omega
   have hT8:T < 8:=by omega
   have r1:IntKind.i64.wrap ((Z:Int) / 8)=(D:Int):=by rw [i64_sum (by omega) (by omega)];omega
   have r2:(Z:Int).tmod 8=(T:Int):=by rw [Int.tmod_eq_emod_of_nonneg (by omega)];omega
   have hz0:(0:Int)≤(Z:Int):=by omega
   have r3:(0:Int)≤(T:Int):=by omega
   have r4:(D:Int) < (xm:Int):=by omega
   obtain ⟨x,hx⟩:∃ x,lp[D]?=some x:=⟨_,List.getElem?_eq_getElem (by rw [HLP.out];exact hDn)⟩
   have hcx:wr.cell? ⟨gx,D,none⟩=some (.int .u8 (x.toNat:Int)):=(World.ownsRow.cellAt (HO.out.byt (i:=0) rfl) D (by rw [HLP.out];omega)).trans (u8s_at hx)
   have hfr:wr.frozen? ⟨gx,D,none⟩=false:=World.ownsRow.frozenAt (HO.out.byt (i:=0) rfl) _
   have HFW:=Lib.hid (flip_walk x T hT8)
   have HXX:=Lib.hid hx
   have HST:Hid (∀ v:Value,v=u8v (flipU x T)→OW x9 [bytO 5 (some ⟨gx,0,none⟩,xcp,lp.set D (flipU x T)),bytO 5 (WA,wcp,xb)] (wr.setCell ⟨gx,D,none⟩ v)):=Lib.hid fun v hv=>by
    subst hv
    have h:=OW.store HO.out (i:=0) (T:=5) (sz:=1) (g:=gx) (n:=lp.length) (cap:=xcp) (cs:=u8s lp) rfl D (u8v (flipU x T))
    rw [u8s_set] at h
    unfold bytO
    rw [List.length_set]
    exact h
   clear hx hD hT hdk s8 hb
   go_wp2_with fail
   go_still_tail 13,(by kernel_rfl)
   change wpList _ _ _ _ _ wr.drew
   go_wp2
   go_roundw
   case rel =>
    refine ⟨j + 1,by omega,by go_num,?_⟩
    rw [HNX.out,HF.out,HXX.out]
    exact Lib.hid (HST.out _ (by unfold u8v;rw [← HFW.out])).drew
   case measure=>simp [intOf];omega
theorem burstsL_top (oa:OptR) (es:List Ent) (A:Option Addr) (n c:Nat) (at' P:Int) (w:World) (hes:Ens w A n es) (hn:n≤1048576)
  (hel:∀ e,e ∈ es→e.row.length≤1048576∧e.qual.length≤1048576∧e.val.length≤1048576) (ht:TabAt 0 w) (hP:0≤P∧P < 4294967296) :
  Calls Tryz.prog 10 #[optV oa,.slice A n c,.int .i64 at',.int .u32 P] w fun e z=>e = .returned (.bool true)∧Below w.heap.size w z:=by
 obtain ⟨p,rfl⟩:∃ p:Nat,P=(p:Int):=⟨P.toNat,by omega⟩
 exact burstsL_any oa es A n c at' p w hes hn hel ht (by omega)
end Go.Proofs.YtfdbcfaeiglbeaaGreatDoor
