/-
 Layer 7: RunTells. (Printed by gen_runt1.py.)
-/
import Derived.Test.YtfdbcfaeiglbeaaGreatDoorRunT1
import Derived.Test.YtfdbcfaeiglbeaaGreatDoorRXB
namespace Go.Proofs.YtfdbcfaeiglbeaaGreatDoor
open Go.RowKit
def fz (m:Nat) (z:Int):Int:=if 0≤z then z % (8 * (m:Int)) else z
theorem three_at {i j k:Int} {m nn:Nat} (h:nn < 3):∃ zv,([.int .i64 i,.int .i64 j,.int .i64 k]:List Value)[nn]?=some (.int .i64 zv)∧[fz m i,fz m j,fz m k].take (nn + 1)=[fz m i,fz m j,fz m k].take nn ++ [fz m zv]:=by
 match nn,h with
 | 0,_=>exact ⟨i,rfl,rfl⟩
 | 1,_=>exact ⟨j,rfl,rfl⟩
 | 2,_=>exact ⟨k,rfl,rfl⟩
set_option maxRecDepth 1000000 in
set_option maxHeartbeats 16000000 in
theorem tellsL_any (oa:OptR) (es:List Ent) (A:Option Addr) (n c:Nat) (i j k:Int) (w:World) (hes:Ens w A n es) (hn:n≤1048576)
  (hel:∀ e,e ∈ es→e.row.length≤1048576∧e.qual.length≤1048576∧e.val.length≤1048576) (ht:TabAt 0 w) :
  Calls Tryz.prog 9 #[optV oa,.slice A n c,.int .i64 i,.int .i64 j,.int .i64 k] w fun e z=>e = .returned (.bool true)∧Below w.heap.size w z:=by
 obtain ⟨rs0,hrs0,hrd0,hen0⟩:=hes
 have HRD:Hid (∀ z,Below w.heap.size w z→Reads z w.heap.size 7 A n (rs0.flatMap ER.cells)):=Lib.hid fun z hz=>hrd0.below hz
 have HEN:Hid (∀ z,Below w.heap.size w z→∀ r,r ∈ rs0→r.En z):=Lib.hid fun z hz r hr=>(hen0 r hr).later hz
 have HRS:=Lib.hid hrs0
 have HTB:Hid (∀ z,Below w.heap.size w z→TabAt 0 z):=Lib.hid fun z hz=>ht.later hz
 have HFL:Hid (∀ e,e ∈ firstE::es→e.row.length≤140737488355000∧e.qual.length≤140737488355000∧e.val.length≤140737488355000):=Lib.hid (first_len hel)
 obtain ⟨v0,v1,v2,v3,v4,hv⟩:∃ v0 v1 v2 v3 v4,optF oa=⟨v0,v1,v2,v3,v4⟩:=⟨_,_,_,_,_,rfl⟩
 have HOA:Hid (optV (optF oa) = .agg #[.int .i64 v0,.int .i64 v1,.int .i64 v2,.int .i64 v3,.int .i64 v4]):=Lib.hid (by rw [hv];rfl)
 have HKA:Hid (optOk ⟨v0,v1,1099511627776,v3,v4⟩=true):=Lib.hid (by have h:=optX_ok oa;unfold optX at h;rw [hv] at h;exact h)
 obtain ⟨L,hL⟩:∃ L,L=ordL 1099511627776 ((firstE::es).take 120):=⟨_,rfl⟩
 have HL:=Lib.hid hL.symm
 have HLN:Hid (L ≠ []):=Lib.hid (by rw [hL];exact ordL_ne (by decide) es)
 have HOL:Hid (OrdOk 1099511627776 L):=Lib.hid (by rw [hL];exact ord_ok _ _)
 have HL1:Hid (L.length≤120):=Lib.hid (by rw [hL];exact Nat.le_trans (ord_len _ _) (by rw [List.length_take];omega))
 have HRA:Hid (refuseR ⟨v0,v1,1099511627776,v3,v4⟩ L=0):=Lib.hid (refuse_of HKA.out HLN.out HOL.out)
 have HSA:Hid ((runBy ⟨v0,v1,1099511627776,v3,v4⟩ L).length≤16777216):=Lib.hid (run_small HRA.out (by have:=HL1.out;omega))
 obtain ⟨xb,hxb⟩:∃ x,x=runBy ⟨v0,v1,1099511627776,v3,v4⟩ L:=⟨_,rfl⟩
 have HXB:=Lib.hid hxb.symm
 have HXP:Hid (0 < xb.length∧xb.length≤16777216):=Lib.hid (by rw [hxb];exact ⟨runC_ne _ _,HSA.out⟩)
 have HX:=Lib.hid (OW.nil w)
 clear hrd0 hen0 hrs0 hel ht hv hL hxb
 unfold optV
 go_enter Tryz.func9,Tryz.ntmps9
 go_wp2_with (first
  | (refine wl_box rfl (.tmp 0) rfl [.int .i64 oa.block,.int .i64 oa.bits,.int .i64 oa.index,.int .i64 oa.low,.int .i64 oa.clock] rfl HX.out ?_;intro g1 x1 hz _;have HX1:Hid (OW w [boxO g1 [.int .i64 oa.block,.int .i64 oa.bits,.int .i64 oa.index,.int .i64 oa.low,.int .i64 oa.clock]] x1):=Lib.hid hz;clear hz HX)
  | (refine wl_rowR rfl 23 (.tmp 5) rfl rfl (HX1.out.range (i:=0) rfl) opts_row ?_)
  | (go_at_call 25;go_must (refine (options_any oa _).mono ?_);rw [HOA.out];rintro e x2 ⟨rfl,hb⟩;have HX2:=Lib.hid (HX1.out.later hb);clear hb HX1)
  | (refine wl_alloc rfl rfl [.int .i64 0,.int .i64 0,.int .i64 0,.int .i64 0,.int .i64 0] (.inl (by kernel_rfl)) HX2.out ?_;intro g2 x3 hz _;have HX3:Hid (OW w [boxO g1 [.int .i64 oa.block,.int .i64 oa.bits,.int .i64 oa.index,.int .i64 oa.low,.int .i64 oa.clock],boxO g2 [.int .i64 0,.int .i64 0,.int .i64 0,.int .i64 0,.int .i64 0]] x3):=Lib.hid hz;clear hz HX2)
  | (refine wl_put rfl (.tmp 11) (.tmp 20) rfl HX3.out 1 rfl rfl [.int .i64 v0,.int .i64 v1,.int .i64 v2,.int .i64 v3,.int .i64 v4] rfl rfl (by kernel_rfl) (by simp [Value.oneCell']) ?_;intro x4 hz _;have HX4:Hid (OW w [boxO g1 [.int .i64 oa.block,.int .i64 oa.bits,.int .i64 oa.index,.int .i64 oa.low,.int .i64 oa.clock],boxO g2 [.int .i64 v0,.int .i64 v1,.int .i64 v2,.int .i64 v3,.int .i64 v4]] x4):=Lib.hid hz;clear hz HX3)
  | (refine wl_put1 rfl (.tmp 21) (.const (.int .i64 1099511627776)) rfl HX4.out 1 rfl 2 rfl (by simp) _ rfl (by kernel_rfl) rfl ?_;intro x5 hz _;have HX5:Hid (OW w [boxO g1 [.int .i64 oa.block,.int .i64 oa.bits,.int .i64 oa.index,.int .i64 oa.low,.int .i64 oa.clock],boxO g2 [.int .i64 v0,.int .i64 v1,.int .i64 1099511627776,.int .i64 v3,.int .i64 v4]] x5):=Lib.hid hz;clear hz HX4))
 refine lt_start [] (by kernel_rfl) ?_
 intro xd hd
 refine ⟨fun z=>OW w [boxO g1 [.int .i64 oa.block,.int .i64 oa.bits,.int .i64 oa.index,.int .i64 oa.low,.int .i64 oa.clock],boxO g2 [.int .i64 v0,.int .i64 v1,.int .i64 1099511627776,.int .i64 v3,.int .i64 v4]] z,?_⟩
 have HS:=Lib.hid (HX5.out.later hd)
 refine lp2 2 rfl (fun _=>HS.out) ?_
 simp only [Act.put,ls]
 refine lp2 4 rfl (fun _=>HS.out) ?_
 simp only [Act.put,ls]
 refine lq 5 [6,7] rfl (yi_cell rfl rfl rfl (fun w hS=>OW.cell hS (i:=1) (j:=2) rfl rfl) Tryz.isAgg3) HS.out ?_
 simp only [Act.put,ls]
 refine lt_call 0 rfl (by kernel_rfl) rfl rfl ⟨_,Tryz.func39,by decide,by kernel_rfl⟩ [] rfl ?_
 refine (first_any _).mono ?_
 rintro e x6 ⟨FA,FB,FD,rfl,hen,hb⟩
 have HFE:Hid (∀ z,Below x6.heap.size x6 z→En z FA 1 1 FB 1 1 FD 1 1 firstE):=Lib.hid fun z hz=>hen.later hz
 replace HS:=Lib.hid (HS.out.later hb)
 have HN6:=Lib.hid (OW.nil x6)
 clear hen hb
 refine ⟨_,rfl,fun _=>HS.out,?_⟩
 simp only [Act.put,ls]
 refine lt_op 1 rfl (by kernel_rfl) rfl ?_
 refine wpo_build rfl #[.slice FA 1 1,.int .i64 0,.slice FB 1 1,.int .i64 7,.int .i64 33,.int .i64 1,.slice FD 1 1] Tryz.entsS (.agg #[.slice none 0 0,.int .i64 0,.slice none 0 0,.int .i64 0,.int .i64 0,.int .i64 0,.slice none 0 0]) (by kernel_rfl) (by decide) (by decide) (by decide) rfl (by first | rfl | kernel_rfl) HN6.out ?_
 intro g7 x7 hz _
 have HR7:Hid (OW x6 [rowO 60 7 (.slice (some ⟨g7,0,none⟩) 1 1) 1 [.slice FA 1 1,.int .i64 0,.slice FB 1 1,.int .i64 7,.int .i64 33,.int .i64 1,.slice FD 1 1]] x7):=Lib.hid hz
 have HS6:=HS
 replace HS:=Lib.hid (HS.out.later hz.up)
 clear hz HN6
 refine ⟨fun _=>HS.out,?_⟩
 simp only [Act.put,ls]
 refine lt_op 3 rfl (by kernel_rfl) rfl ?_
 refine wpo_append (.tmp 23) (.tmp 24) rfl Tryz.entsS HR7.out 0 rfl rfl _ A n c (rs0.flatMap ER.cells) rfl (HRD.out _ HS.out.up) (cells7_one rs0) (by unfold maxLen;omega) (by omega) ?_
 intro A8 c8 x8 hz _
 have HR8:Hid (OW x6 [rowO 60 7 (.slice A8 (1 + n) c8) (1 + n) ([.slice FA 1 1,.int .i64 0,.slice FB 1 1,.int .i64 7,.int .i64 33,.int .i64 1,.slice FD 1 1] ++ rs0.flatMap ER.cells)] x8):=Lib.hid hz
 replace HS:=Lib.hid (HS6.out.later hz.up)
 clear hz HR7 HS6
 refine ⟨fun _=>HS.out,?_⟩
 simp only [Act.put,ls]
 refine lt_call 6 rfl (by kernel_rfl) rfl rfl ⟨_,Tryz.func38,by decide,by kernel_rfl⟩ [.slice A8 (1 + n) c8,.int .i64 1099511627776] rfl ?_
 have hE8:Ens x8 A8 (1 + n) (firstE::es):=by
  have h:=HR8.out.ens (rs:=⟨FA,1,FB,1,FD,1,firstE⟩::rs0) (i:=0) rfl (fun r hr=>by
   rcases List.mem_cons.1 hr with rfl | hr
   ·exact HFE.out _ HR8.out.up
   ·exact HEN.out _ HS.out.up r hr)
  rw [List.map_cons,HRS.out] at h
  exact h
 refine (ordered7_any 1099511627776 (by decide) (firstE::es) A8 (1 + n) c8 _ hE8 HFL.out).mono ?_
 rw [HL.out]
 rintro e x9 ⟨LA,lc,ll,rfl,hll,hE,hb⟩
 have HLE:Hid (∀ z,Below x9.heap.size x9 z→Ens z LA ll L):=Lib.hid fun z hz=>hE.later hz
 have HLL:Hid (L.length=ll):=Lib.hid hE.len
 replace HS:=Lib.hid (HS.out.later hb)
 clear hE hb hE8 HR8 HFE
 refine ⟨_,rfl,fun _=>HS.out,?_⟩
 simp only [Act.put,ls]
 refine lp2 7 rfl (fun _=>HS.out) ?_
 simp only [Act.put,ls]
 refine lt_done (by kernel_rfl) ?_
 have HX9:Hid (OW w [boxO g1 [.int .i64 oa.block,.int .i64 oa.bits,.int .i64 oa.index,.int .i64 oa.low,.int .i64 oa.clock],boxO g2 [.int .i64 v0,.int .i64 v1,.int .i64 1099511627776,.int .i64 v3,.int .i64 v4]] x9):=HS
 have HU9:=Lib.hid HX9.out.up
 clear HS HX5
 go_upto_region 5 with (first
  | (refine wl_rowR rfl 23 (.tmp 11) rfl rfl (HX9.out.range (i:=1) rfl) opts_row ?_)
  | (go_at_call 27;go_must (refine (made_yes ⟨v0,v1,1099511627776,v3,v4⟩ L LA ll lc _ (HLE.out _ (Below.refl _ _)) (by omega) HRA.out HSA.out (HTB.out _ HX9.out.up)).mono ?_);rw [HXB.out];rintro e x10 ⟨q,XA,xm,xcp,hq1,hq2,hxl,rfl,hz⟩;have HXL:=Lib.hid hxl;have HQ:=Lib.hid (And.intro hq1 hq2);have HXQ:Hid (OW x9 (bytO 5 (XA,xcp,xb)::q.obs) x10):=Lib.hid hz;clear hxl hq1 hq2 hz))
 obtain ⟨gx,hgx,_,_⟩:=ownB_some (HXQ.out.byt (i:=0) rfl) HXP.out.1
 subst hgx
 have HX10:Hid (OW x9 [bytO 5 (some ⟨gx,0,none⟩,xcp,xb)] x10):=Lib.hid (OW.left (os:=[bytO 5 (some ⟨gx,0,none⟩,xcp,xb)]) HXQ.out)
 have HCW:Hid (cutS xb 0 (xm - 0)=xb):=Lib.hid (by unfold cutS;rw [List.drop_zero,List.take_of_length_le (by rw [HXL.out];omega)])
 have hxm:0 < xm∧xm≤16777216:=by rw [← HXL.out];exact HXP.out
 have HLC:Hid (ll≤lc):=Lib.hid hll.2
 clear HXQ
 go_wp2_with (first
  | (go_at_call 51;go_must (refine (part_any xb (some ⟨gx,0,none⟩) xm xcp 0 xm _ _ rfl rfl _ (HX10.out.sl (i:=0) rfl HXL.out) (Nat.zero_le _) (Nat.le_refl _) (by omega)).mono ?_);rw [HCW.out];rintro e x11 hp;obtain ⟨WA,wcp,rfl,_,ho,hb⟩:=hp.at_ HXL.out;have HX11:Hid (OW x9 [bytO 5 (some ⟨gx,0,none⟩,xcp,xb),bytO 5 (WA,wcp,xb)] x11):=Lib.hid (HX10.out.app (OW.byt1 hb ho));clear hp ho hb HX10)
  | (refine wl_alloc rfl rfl [.int .i64 0,.int .i64 0,.int .i64 0] (.inl (by kernel_rfl)) HX11.out ?_;intro g12 x12 hz _;have HX12:Hid (OW x9 [bytO 5 (some ⟨gx,0,none⟩,xcp,xb),bytO 5 (WA,wcp,xb),boxO g12 [.int .i64 0,.int .i64 0,.int .i64 0]] x12):=Lib.hid hz;clear hz HX11)
  | (refine wl_put rfl (.tmp 16) (.tmp 44) rfl HX12.out 2 rfl rfl [.int .i64 i,.int .i64 j,.int .i64 k] rfl rfl (by kernel_rfl) (by simp [Value.oneCell']) ?_;intro x13 hz _;have HX13:Hid (OW x9 [bytO 5 (some ⟨gx,0,none⟩,xcp,xb),bytO 5 (WA,wcp,xb),boxO g12 [.int .i64 i,.int .i64 j,.int .i64 k]] x13):=Lib.hid hz;clear hz HX12))
 obtain ⟨ZS,hzs⟩:∃ Z,Z=[fz xm i,fz xm j,fz xm k]:=⟨_,rfl⟩
 have HZ3:Hid (ZS.take 3=ZS∧Told ZS):=Lib.hid (by rw [hzs];exact ⟨rfl,told_three _ _ _⟩)
 have HZN:Hid (∀ nn,nn < 3→∃ zv,([.int .i64 i,.int .i64 j,.int .i64 k]:List Value)[nn]?=some (.int .i64 zv)∧ZS.take (nn + 1)=ZS.take nn ++ [fz xm zv]):=Lib.hid fun nn h=>by rw [hzs];exact three_at h
 clear hzs
 go_loopw [17,18] (fun nv _ wr=>∃ nn:Nat,nn≤3∧nv = .int .i64 nn∧Hid (OW x9 [bytO 5 (some ⟨gx,0,none⟩,xcp,(flipsB xb (ZS.take nn))),bytO 5 (WA,wcp,xb),boxO g12 [.int .i64 i,.int .i64 j,.int .i64 k]] wr)) (fun nv _ _=>3 - (intOf nv).toNat)
 case atStart=>exact ⟨0,by omega,rfl,HX13⟩
 case round =>
  clear HX13
  obtain ⟨nn,hn3,rfl,HO⟩:=hrel
  by_cases hlt:nn < 3
  case neg =>
   obtain rfl:nn=3:=by omega
   have hd:decide ((3:Int) < 3)=false:=rfl
   obtain ⟨f2,hf2⟩:∃ x,x=flipsB xb ZS:=⟨_,rfl⟩
   have HTO:Hid (Told ZS):=Lib.hid HZ3.out.2
   rw [HZ3.out.1,← hf2] at HO
   have HFX:Hid (flipsB (runBy ⟨v0,v1,1099511627776,v3,v4⟩ L) ZS=f2):=Lib.hid (by rw [HXB.out,hf2])
   have HF2:Hid (f2.length=xm):=Lib.hid (by rw [hf2,flipsB_length];exact HXL.out)
   have HSX:Hid (∀ z,Below wr.heap.size wr z→Sl z (some ⟨gx,0,none⟩) xm xcp f2):=Lib.hid fun z hz=>(HO.out.later hz).sl (i:=0) rfl HF2.out
   have HSW:Hid (Sl wr WA xm wcp xb):=Lib.hid (HO.out.sl (i:=1) rfl HXL.out)
   have HUP:Hid (Below w.heap.size w wr):=Lib.hid (HU9.out.trans (HO.out.up.mono HU9.out.size))
   have HLW:Hid (Ens wr LA ll L):=Lib.hid (HLE.out _ HO.out.up)
   clear hf2
   by_cases hne:f2=xb
   ·have XB:Hid ((xb == f2)=true):=Lib.hid (by rw [hne];simp)
    clear hne
    go_wp2_with (go_at_call 43;go_must (refine (rSame_any xb f2 WA (some ⟨gx,0,none⟩) xm wcp xm xcp _ HSW.out.rb (HSX.out _ (Below.refl _ _)).rb).mono ?_);rw [XB.out];rintro e y1 ⟨rfl,rfl⟩)
    go_ret
    exact ⟨rfl,HUP.out⟩
   ·have XB:Hid ((xb == f2)=false):=Lib.hid (by simp;exact fun h=>hne h.symm)
    have HNE:Hid (f2 ≠ runBy ⟨v0,v1,1099511627776,v3,v4⟩ L):=Lib.hid (by rw [HXB.out];exact hne)
    clear hne
    go_wp2_with (first
     | (go_at_call 43;go_must (refine (rSame_any xb f2 WA (some ⟨gx,0,none⟩) xm wcp xm xcp _ HSW.out.rb (HSX.out _ (Below.refl _ _)).rb).mono ?_);rw [XB.out];rintro e y1 ⟨rfl,rfl⟩)
     | (go_at_call 52;go_must (refine (tells7_any ⟨v0,v1,1099511627776,v3,v4⟩ L ZS HTO.out HRA.out (by have:=HL1.out;omega) HSA.out f2 HFX.out HNE.out (some ⟨gx,0,none⟩) xm xcp LA ll lc _ (HSX.out _ (Below.refl _ _)) HLW.out HLC.out (HTB.out _ HUP.out)).mono ?_);rintro e y2 ⟨rfl,hb⟩;have HU2:=Lib.hid (HUP.out.trans (hb.mono HUP.out.size));clear hb))
    go_ret
    exact ⟨rfl,HU2.out⟩
  have hd:decide ((nn:Int) < 3)=true:=decide_eq_true (by omega)
  obtain ⟨zv,hcz,htk⟩:=HZN.out nn hlt
  have HCZ:Hid (wr.cell? ⟨g12,nn,none⟩=some (.int .i64 zv)):=Lib.hid (HO.out.cell (i:=2) (j:=nn) rfl hcz)
  have i0:(0:Int)≤(nn:Int):=by omega
  have i1:(nn:Int) < 3:=by omega
  obtain ⟨lp,hlp⟩:∃ x,x=flipsB xb (ZS.take nn):=⟨_,rfl⟩
  have HNX:Hid (flipsB xb (ZS.take (nn + 1))=flipB lp (fz xm zv)):=Lib.hid (by rw [htk,flipsB_snoc,hlp])
  have HLP:Hid (lp.length=xm):=Lib.hid (by rw [hlp,flipsB_length];exact HXL.out)
  rw [← hlp] at HO
  clear hcz htk hlp
  by_cases hpos:0≤zv
  case neg =>
   have hd2:decide (zv ≥ 0)=false:=decide_eq_false hpos
   have hd3:decide (0≤zv)=false:=decide_eq_false hpos
   have HN2:Hid (flipB lp (fz xm zv)=lp):=Lib.hid (by unfold fz;rw [if_neg hpos];exact flipB_out (fun h=>hpos h.1))
   go_wp2_with (refine wpList_load_cell rfl 3 (.tmp 50) rfl rfl HCZ.out Tryz.isAgg3 ?_)
   go_roundw
   case rel=>exact ⟨nn + 1,by omega,by go_num,by rw [HNX.out,HN2.out];exact HO⟩
   case measure=>simp [intOf];omega
  have hd2:decide (zv ≥ 0)=true:=decide_eq_true hpos
  have hd3:decide (0≤zv)=true:=decide_eq_true hpos
  obtain ⟨Z,hZ⟩:∃ Z:Nat,(Z:Int)=zv % (8 * (xm:Int)):=⟨(zv % (8 * (xm:Int))).toNat,Int.toNat_of_nonneg (Int.emod_nonneg _ (by omega))⟩
  have hZ8:Z < 8 * xm:=by have:=Int.emod_lt_of_pos zv (show 0 < 8 * (xm:Int) by omega);omega
  have HFZ:Hid (fz xm zv=(Z:Int)):=Lib.hid (by unfold fz;rw [if_pos hpos,hZ])
  have hrem:zv.tmod (8 * (xm:Int))=(Z:Int):=by rw [Int.tmod_eq_emod_of_nonneg hpos,hZ]
  have hne8:¬ 8 * (xm:Int)=0:=by omega
  have s8:IntKind.i64.wrap (8 * (xm:Int))=8 * (xm:Int):=i64_sum (by omega) (by omega)
  rw [HFZ.out] at HNX
  clear hZ HFZ
  go_upto_region 14 with (first
   | (refine wpList_load_cell rfl 3 (.tmp 50) rfl rfl HCZ.out Tryz.isAgg3 ?_)
   | (refine wpList_load_cell rfl 3 (.tmp 54) rfl rfl HCZ.out Tryz.isAgg3 ?_))
  clear hrem hne8 s8
  obtain ⟨D,hD⟩:∃ D,D=Z / 8:=⟨_,rfl⟩
  obtain ⟨T,hT⟩:∃ T,T=Z % 8:=⟨_,rfl⟩
  have HF:Hid (flipB lp (Z:Int)=lp.set D (flipU (lp[D]?.getD 0) T)):=Lib.hid (by rw [flipB_set (by rw [HLP.out];exact hZ8),hD,hT])
  have hDn:D < xm:=by omega
  have hT8:T < 8:=by omega
  have r1:IntKind.i64.wrap ((Z:Int) / 8)=(D:Int):=by rw [i64_sum (by omega) (by omega)];omega
  have r2:(Z:Int).tmod 8=(T:Int):=by rw [Int.tmod_eq_emod_of_nonneg (by omega)];omega
  have hz0:(0:Int)≤(Z:Int):=by omega
  have r3:(0:Int)≤(T:Int):=by omega
  have r4:(D:Int) < (xm:Int):=by omega
  obtain ⟨x,hx⟩:∃ x,lp[D]?=some x:=⟨_,List.getElem?_eq_getElem (by rw [HLP.out];exact hDn)⟩
  have hcx:wr.cell? ⟨gx,D,none⟩=some (.int .u8 (x.toNat:Int)):=(World.ownsRow.cellAt (HO.out.byt (i:=0) rfl) D (by rw [HLP.out];omega)).trans (u8s_at hx)
  have hfr:wr.frozen? ⟨gx,D,none⟩=false:=World.ownsRow.frozenAt (HO.out.byt (i:=0) rfl) _
  have HFW:=Lib.hid (flip_walk x T hT8)
  have HXX:=Lib.hid hx
  have HST:Hid (∀ v:Value,v=u8v (flipU x T)→OW x9 [bytO 5 (some ⟨gx,0,none⟩,xcp,lp.set D (flipU x T)),bytO 5 (WA,wcp,xb),boxO g12 [.int .i64 i,.int .i64 j,.int .i64 k]] (wr.setCell ⟨gx,D,none⟩ v)):=Lib.hid fun v hv=>by
   subst hv
   have h:=OW.store HO.out (i:=0) (T:=5) (sz:=1) (g:=gx) (n:=lp.length) (cap:=xcp) (cs:=u8s lp) rfl D (u8v (flipU x T))
   rw [u8s_set] at h
   unfold bytO
   rw [List.length_set]
   exact h
  clear hx hD hT
  go_wp2_with fail
  go_still_tail 13,(by kernel_rfl)
  change wpList _ _ _ _ _ wr.drew
  go_wp2
  go_roundw
  case rel =>
   refine ⟨nn + 1,by omega,by go_num,?_⟩
   rw [HNX.out,HF.out,HXX.out]
   exact Lib.hid (HST.out _ (by unfold u8v;rw [← HFW.out])).drew
  case measure=>simp [intOf];omega
end Go.Proofs.YtfdbcfaeiglbeaaGreatDoor
