/-
 BlockB3.
-/
import Derived.Test.YtfdbcfaeiglbeaaGreatDoorRZ16
namespace Go.Proofs.YtfdbcfaeiglbeaaGreatDoor
open Go.RowKit
theorem Tryz.intS5:SliceOf Tryz.prog 141 3 1 8:=SliceOf.mk' (z := .int .i64 0) Tryz.underlying141 (by kernel_rfl) rfl (by decide)
theorem uintB_le10 {n:Nat} (h:n < 18446744073709551616):(uintB n).length≤10:=uintB_len 9 n (Nat.lt_of_lt_of_le h (by decide))
theorem ent_row5:RowTy Tryz.prog 60 7:=⟨⟨_,Tryz.underlying60,rfl⟩,by kernel_rfl⟩
theorem last_range {w z:World} {os:List Ob} {i R g:Nat} {bv pv kv:Value} {A B:Option Addr} {n c m d N:Nat} {e:Ent} (h:OW w os z) (hi:os[i]?=some (boxO g (bldC R bv pv A n c B m d e kv N))) :
  z.rangeAt g 3 [.slice A n c,.int .i64 e.fam,.slice B m d,.int .i64 e.ts,.int .i64 e.seq,.int .i64 e.kind,.slice none 0 0]:=fun j v hj=>by
 match j,hj with
 | 0,hj=>exact h.cell (j:=3) hi hj
 | 1,hj=>exact h.cell (j:=4) hi hj
 | 2,hj=>exact h.cell (j:=5) hi hj
 | 3,hj=>exact h.cell (j:=6) hi hj
 | 4,hj=>exact h.cell (j:=7) hi hj
 | 5,hj=>exact h.cell (j:=8) hi hj
 | 6,hj=>exact h.cell (j:=9) hi hj
def AddP (w:World) (R:Nat) (L:List Ent) (g:Nat) (rest:List Ob) (e:Ent) (r:Ending) (z:World):Prop :=
 r = .returned (.int .i64 (addC R L e))∧∃ os',Bld R (addL R L e) g os'∧OW w (os' ++ rest) z
set_option maxRecDepth 100000 in
set_option maxHeartbeats 4000000 in
theorem add_any {w x:World} {R g:Nat} {L:List Ent} {os rest:List Ob} (hb:Bld R L g os) (h:OW w (os ++ rest) x) (e:Ent) (A:Option Addr) (n c:Nat) (B:Option Addr) (m d:Nat) (D:Option Addr) (v q:Nat) (HE:∀ us z,OW w (us ++ rest) z→En z A n c B m d D v q e) :
  Calls Tryz.prog 109 #[.pointer (some ⟨g,0,none⟩),entV A n c B m d D v q e] x (AddP w R L g rest e):=by
 obtain ⟨hR,hsz,hkl,hall,mm,rfl,hlast⟩:=hb
 have HEE:=Lib.hid HE
 have HX:=Lib.hid h
 have HRR:=Lib.hid hR
 have HSZ:=Lib.hid hsz
 have HKL:=Lib.hid hkl
 have HLA:=Lib.hid hlast
 have HALL:=Lib.hid hall
 clear h HE hR hsz hkl hlast hall
 by_cases hc:checkE e=0
 case neg =>
  obtain ⟨ce,hce⟩:∃ z,z=checkE e:=⟨_,rfl⟩
  have HK:Hid (KeyE e=([],ce)):=Lib.hid (by unfold KeyE;rw [if_neg hc,hce])
  have HP:Hid (addC R L e=ce∧addL R L e=L):=Lib.hid (by
   have h:addC R L e=ce:=by unfold addC;rw [if_pos hc,hce]
   exact ⟨h,by unfold addL;rw [h,if_neg (by rw [hce];exact hc)]⟩)
  rw [← hce] at hc
  clear hce
  have hd:(ce == 0)=false:=beq_eq_false_iff_ne.2 hc
  go_enter Tryz.func109,Tryz.ntmps109
  have tk:True:=trivial
  go_wp2_with (first
   | (refine wl_box rfl (.tmp 1) rfl [.slice A n c,.int .i64 e.fam,.slice B m d,.int .i64 e.ts,.int .i64 e.seq,.int .i64 e.kind,.slice D v q] rfl (OW.nil _) ?_;intro gb x1 hz _;replace HX:=Lib.hid (HX.out.addF9 hz);clear hz)
   | (refine wpList_load_row7 rfl 60 (.tmp 3) rfl rfl (HX.out.range (i:=0) rfl) ent_row5 ?_)
   | (go_at_call 111;have _t:=tk;go_must (refine (key_any e A n c B m d D v q _ (HEE.out (boxO gb [.slice A n c,.int .i64 e.fam,.slice B m d,.int .i64 e.ts,.int .i64 e.seq,.int .i64 e.kind,.slice D v q]::bldO R g (runB R L) mm) _ HX.out)).mono ?_);rw [HK.out];rintro r y1 hp;obtain ⟨Ak,ck,rfl,_,ho,hb⟩:=hp.at_ (n:=0) rfl rfl;replace HX:=Lib.hid (HX.out.addF9 (OW.byt1 hb ho));clear hp ho hb tk))
  go_ret
  exact ⟨by rw [HP.out.1];rfl,bldO R g (runB R L) mm,by rw [HP.out.2];exact ⟨HRR.out,HSZ.out,HKL.out,HALL.out,mm,rfl,HLA.out⟩,HX.out.sub (((List.Sublist.refl _).cons _).cons _)⟩
 have HOK:=Lib.hid (ok_of hc)
 have hkn0:=keyE_len HOK.out
 obtain ⟨kb,hkb⟩:∃ z,z=keyE e:=⟨_,rfl⟩
 have HK:Hid (KeyE e=(kb,0)):=Lib.hid (by unfold KeyE;rw [if_pos hc,hkb])
 rw [← hkb] at hkn0
 obtain ⟨kn,hkn⟩:∃ z,z=kb.length:=⟨_,rfl⟩
 rw [← hkn] at hkn0
 have HKB:=Lib.hid hkb
 have HKN:=Lib.hid hkn.symm
 have HC:=Lib.hid hc
 clear hkb hkn hc
 obtain ⟨s,hs⟩:∃ z,z=runB R L:=⟨_,rfl⟩
 rw [← hs] at HX HSZ HKL
 obtain ⟨N,hN⟩:∃ z,z=s.n:=⟨_,rfl⟩
 have HNL:Hid (N=L.length):=Lib.hid (by rw [hN,hs,runB_n])
 have HS0:=Lib.hid hs
 have HN:=Lib.hid hN
 clear hs hN
 obtain ⟨bo,hbo⟩:∃ z:Bool,z=!lastOk L e:=⟨_,rfl⟩
 have HBO:=Lib.hid hbo
 clear hbo
 go_enter Tryz.func109,Tryz.ntmps109
 have tk:True:=trivial
 go_upto_region 4 with (first
  | (refine wl_box rfl (.tmp 1) rfl [.slice A n c,.int .i64 e.fam,.slice B m d,.int .i64 e.ts,.int .i64 e.seq,.int .i64 e.kind,.slice D v q] rfl (OW.nil _) ?_;intro gb x1 hz _;replace HX:=Lib.hid (HX.out.addF9 hz);clear hz)
  | (refine wpList_load_row7 rfl 60 (.tmp 3) rfl rfl (HX.out.range (i:=0) rfl) ent_row5 ?_)
  | (go_at_call 111;have _t:=tk;go_must (refine (key_any e A n c B m d D v q _ (HEE.out (boxO gb [.slice A n c,.int .i64 e.fam,.slice B m d,.int .i64 e.ts,.int .i64 e.seq,.int .i64 e.kind,.slice D v q]::bldO R g s mm) _ HX.out)).mono ?_);rw [HK.out];rintro r y1 hp;obtain ⟨Ak,ck,rfl,_,ho,hb⟩:=hp.at_ (n:=kn) HKN.out rfl;replace HX:=Lib.hid (HX.out.addF9 (OW.byt1 hb ho));clear hp ho hb tk))
 have HX:Hid (OW w (bytO 5 (Ak,ck,kb)::boxO gb [.slice A n c,.int .i64 e.fam,.slice B m d,.int .i64 e.ts,.int .i64 e.seq,.int .i64 e.kind,.slice D v q]::(bldO R g s mm ++ rest)) y1):=HX
 have HCN:Hid (∀ z,OW w (bytO 5 (Ak,ck,kb)::boxO gb [.slice A n c,.int .i64 e.fam,.slice B m d,.int .i64 e.ts,.int .i64 e.seq,.int .i64 e.kind,.slice D v q]::(bldO R g s mm ++ rest)) z→z.cell? ⟨g,11,none⟩=some (.int .i64 (N:Int))):=Lib.hid fun z hz=>by rw [HN.out];exact hz.cell (i:=2) (j:=11) rfl rfl
 go_cut [32] (fun b wx=>b = .bool bo∧Hid (OW w (bytO 5 (Ak,ck,kb)::boxO gb [.slice A n c,.int .i64 e.fam,.slice B m d,.int .i64 e.ts,.int .i64 e.seq,.int .i64 e.kind,.slice D v q]::(bldO R g s mm ++ rest)) wx))
 case first =>
  cases hg:L.getLast? with
  | none =>
   have hN0:N=0:=by rw [HNL.out,List.getLast?_eq_none_iff.1 hg];rfl
   have hb0:bo=false:=by rw [HBO.out];unfold lastOk;rw [hg];rfl
   have hd:decide ((N:Int) > 0)=false:=decide_eq_false (by omega)
   have hd':¬ (0:Int) < (N:Int):=by omega
   clear hg
   refine lt_start [] (by kernel_rfl) ?_
   intro xd hd0
   refine ⟨fun z=>OW w (bytO 5 (Ak,ck,kb)::boxO gb [.slice A n c,.int .i64 e.fam,.slice B m d,.int .i64 e.ts,.int .i64 e.seq,.int .i64 e.kind,.slice D v q]::(bldO R g s mm ++ rest)) z,?_⟩
   have HS:=Lib.hid (HX.out.later hd0)
   refine lp2 0 rfl (fun _=>HS.out) ?_
   simp only [Act.put,ls]
   refine lp2 1 rfl (fun _=>HS.out) ?_
   simp only [Act.put,ls]
   refine lp2 2 rfl (fun _=>HS.out) ?_
   simp only [Act.put,ls]
   refine lq 3 [4,5,6,7,8,9,10,11,12,13] rfl (yi_cell rfl rfl rfl (fun w hS=>HCN.out w hS) Tryz.isAgg3) HS.out ?_
   simp only [Act.put,ls]
   refine lp2 4 rfl (fun _=>HS.out) ?_
   simp only [Act.put,ls]
   refine lp2 5 rfl (fun _=>HS.out) ?_
   simp only [Act.put,ls]
   refine lk 6 rfl (fun _=>HS.out) ?_
   simp only [Act.put,ls]
   refine lk 7 rfl (fun _=>HS.out) ?_
   simp only [Act.put,ls]
   refine lk 8 rfl (fun _=>HS.out) ?_
   simp only [Act.put,ls]
   refine lk 9 rfl (fun _=>HS.out) ?_
   simp only [Act.put,ls]
   refine lk 10 rfl (fun _=>HS.out) ?_
   simp only [Act.put,ls]
   refine lk 11 rfl (fun _=>HS.out) ?_
   simp only [Act.put,ls]
   refine lk 12 rfl (fun _=>HS.out) ?_
   simp only [Act.put,ls]
   refine lp2 13 rfl (fun _=>HS.out) ?_
   simp only [Act.put,ls]
   refine lt_done (by kernel_rfl) ?_
   have HS9:=HS
   clear HS
   have HXD:=Lib.hid HS9.out
   go_wp2_with fail
   go_meet
   exact ⟨by rw [hb0],HXD⟩
  | some l =>
   have hl:=HLA.out l hg
   have hN0:0 < N:=by rw [HNL.out];exact List.length_pos_iff.2 (fun e'=>by rw [e'] at hg;cases hg)
   have HV:Hid (mm.e.val=[]):=Lib.hid (by rw [hl])
   obtain ⟨cv,hcv⟩:∃ z,z=cmpE mm.e e:=⟨_,rfl⟩
   have HCV:=Lib.hid hcv
   have hbo:bo=decide (cv ≥ 0):=by
    have h1:cmpE mm.e e=cmpE l e:=by rw [hl];rfl
    rw [HBO.out,hcv,h1];unfold lastOk;rw [hg]
    by_cases h:cmpE l e < 0
    ·simp [h,Int.not_le.2 h]
    ·simp [h,Int.not_lt.1 h]
   have hd:decide ((N:Int) > 0)=true:=decide_eq_true (by omega)
   have hd':(0:Int) < (N:Int):=by omega
   clear hg hl hcv
   refine lt_start [] (by kernel_rfl) ?_
   intro xd hd0
   refine ⟨fun z=>OW w (bytO 5 (Ak,ck,kb)::boxO gb [.slice A n c,.int .i64 e.fam,.slice B m d,.int .i64 e.ts,.int .i64 e.seq,.int .i64 e.kind,.slice D v q]::(bldO R g s mm ++ rest)) z,?_⟩
   have HS:=Lib.hid (HX.out.later hd0)
   refine lp2 0 rfl (fun _=>HS.out) ?_
   simp only [Act.put,ls]
   refine lp2 1 rfl (fun _=>HS.out) ?_
   simp only [Act.put,ls]
   refine lp2 2 rfl (fun _=>HS.out) ?_
   simp only [Act.put,ls]
   refine lq 3 [4,5,6,7,8,9,10,11,12,13] rfl (yi_cell rfl rfl rfl (fun w hS=>HCN.out w hS) Tryz.isAgg3) HS.out ?_
   simp only [Act.put,ls]
   refine lp2 4 rfl (fun _=>HS.out) ?_
   simp only [Act.put,ls]
   refine lp2 5 rfl (fun _=>HS.out) ?_
   simp only [Act.put,ls]
   refine lp2 6 rfl (fun _=>HS.out) ?_
   simp only [Act.put,ls]
   refine lp2 7 rfl (fun _=>HS.out) ?_
   simp only [Act.put,ls]
   refine lp2 8 rfl (fun _=>HS.out) ?_
   simp only [Act.put,ls]
   refine lq 9 [11,12,13] rfl (yi_rowO rfl rfl rfl (fun w hS=>last_range hS (i:=2) rfl) ent_row5) HS.out ?_
   simp only [Act.put,ls]
   refine lq 10 [11,12,13] rfl (yi_row rfl rfl rfl (fun w hS=>OW.range hS (i:=1) rfl) ent_row5) HS.out ?_
   simp only [Act.put,ls]
   refine lt_call 11 rfl (by kernel_rfl) rfl rfl ⟨_,Tryz.func93,by decide,by kernel_rfl⟩ [entV mm.A mm.e.row.length mm.ac mm.Q mm.e.qual.length mm.qc none 0 0 mm.e,entV A n c B m d D v q e] rfl ?_
   refine (compare_any mm.e e mm.A mm.e.row.length mm.ac mm.Q mm.e.qual.length mm.qc none 0 0 A n c B m d D v q _ ⟨HS.out.sl (i:=5) rfl rfl,HS.out.sl (i:=6) rfl rfl,by rw [HV.out];exact Sl.none _⟩ (HEE.out (bytO 5 (Ak,ck,kb)::boxO gb [.slice A n c,.int .i64 e.fam,.slice B m d,.int .i64 e.ts,.int .i64 e.seq,.int .i64 e.kind,.slice D v q]::bldO R g s mm) _ HS.out)).mono ?_
   rw [← HCV.out]
   rintro r z9 ⟨rfl,hb⟩
   replace HS:=Lib.hid (HS.out.later hb)
   clear hb
   refine ⟨_,rfl,fun _=>HS.out,?_⟩
   simp only [Act.put,ls]
   refine lp2 12 rfl (fun _=>HS.out) ?_
   simp only [Act.put,ls]
   refine lp2 13 rfl (fun _=>HS.out) ?_
   simp only [Act.put,ls]
   refine lt_done (by kernel_rfl) ?_
   have HS9:=HS
   clear HS
   have HXD:=Lib.hid HS9.out
   go_wp2_with fail
   go_meet
   exact ⟨by rw [hbo],HXD⟩
 clear HX
 obtain ⟨rfl,HX⟩:=hcut
 obtain ⟨w4,rfl⟩:∃ z:World,z=wc:=⟨_,rfl⟩
 by_cases hlo:lastOk L e=false
 case pos =>
  have hb1:bo=true:=by rw [HBO.out,hlo];rfl
  have HP:Hid (addC R L e=30∧addL R L e=L):=Lib.hid (by
   have h:addC R L e=30:=by unfold addC;rw [if_neg (fun h=>h HC.out),if_pos hlo]
   exact ⟨h,by unfold addL;rw [h,if_neg (by decide)]⟩)
  clear HBO hlo
  subst hb1
  go_wp2_with fail
  go_ret
  exact ⟨by rw [HP.out.1];rfl,bldO R g s mm,by rw [HP.out.2];exact ⟨HRR.out,by rw [← HS0.out];exact HSZ.out,by rw [← HS0.out];exact HKL.out,HALL.out,mm,by rw [← HS0.out],HLA.out⟩,HX.out.sub (((List.Sublist.refl _).cons _).cons _)⟩
 have hb1:bo=false:=by rw [HBO.out];cases h:lastOk L e <;> simp_all
 have HLO:=Lib.hid hlo
 clear HBO hlo
 subst hb1
 obtain ⟨al,hal⟩:∃ z,z=alikeB R s kb:=⟨_,rfl⟩
 obtain ⟨fb,hfb⟩:∃ b:Bool,b=decide (N % R=0):=⟨_,rfl⟩
 have HAL:=Lib.hid hal
 have HFB:=Lib.hid hfb
 clear hal hfb
 have hR1:=HRR.out.1
 have hR2:=HRR.out.2
 have r0:((R:Int) == 0)=false:=beq_eq_false_iff_ne.2 (by omega)
 have r1:¬ R=0:=by omega
 have HCR:Hid (∀ z,OW w (bytO 5 (Ak,ck,kb)::boxO gb [.slice A n c,.int .i64 e.fam,.slice B m d,.int .i64 e.ts,.int .i64 e.seq,.int .i64 e.kind,.slice D v q]::(bldO R g s mm ++ rest)) z→z.cell? ⟨g,0,none⟩=some (.int .i64 (R:Int))):=Lib.hid fun z hz=>hz.cell (i:=2) (j:=0) rfl rfl
 have HNB:Hid (N≤131072):=Lib.hid (by have h1:=n_le_size _ (runB_many R L);rw [← HS0.out] at h1;have:=HSZ.out;have:=HN.out;omega)
 have hnb:=HNB.out
 go_upto_region 6 with fail
 go_cut [7] (fun f wx=>f = .bool fb∧Hid (OW w (bytO 5 (Ak,ck,kb)::boxO gb [.slice A n c,.int .i64 e.fam,.slice B m d,.int .i64 e.ts,.int .i64 e.seq,.int .i64 e.kind,.slice D v q]::(bldO R g s mm ++ rest)) wx))
 case first =>
  have c1:=HCN.out _ HX.out
  have c2:=HCR.out _ HX.out
  by_cases hf:N % R=0
  ·have hb1:fb=true:=by rw [HFB.out];exact decide_eq_true hf
   have e1:((N:Int).tmod (R:Int))=0:=by rw [← Int.ofNat_tmod,hf];rfl
   have e2:((N:Int) % (R:Int))=0:=by rw [← Int.natCast_emod,hf];rfl
   go_wp2_with fail
   go_quiet (fail)
   have HXD:=Lib.hid (HX.out.later (below_drewN (n:=nq) (Below.refl _ _)))
   clear c1 c2
   generalize w4.drewN nq=w5 at *
   go_wp2
   go_meet
   exact ⟨by rw [hb1],HXD⟩
  ·have hb1:fb=false:=by rw [HFB.out];exact decide_eq_false hf
   have e1:¬ ((N:Int).tmod (R:Int))=0:=by rw [← Int.ofNat_tmod];omega
   have e3:(((N:Int).tmod (R:Int)) == 0)=false:=beq_eq_false_iff_ne.2 e1
   have e2:¬ ((N:Int) % (R:Int))=0:=by rw [← Int.natCast_emod];omega
   have e4:(((N:Int) % (R:Int)) == 0)=false:=beq_eq_false_iff_ne.2 e2
   go_wp2_with fail
   go_quiet (fail)
   have HXD:=Lib.hid (HX.out.later (below_drewN (n:=nq) (Below.refl _ _)))
   clear c1 c2
   generalize w4.drewN nq=w5 at *
   go_wp2
   go_meet
   exact ⟨by rw [hb1],HXD⟩
 clear HX
 obtain ⟨rfl,HX⟩:=hcut
 obtain ⟨w5,rfl⟩:∃ z:World,z=wc:=⟨_,rfl⟩
 go_upto_if 44 with fail
 go_cut [8] (fun a wx=>a = .int .i64 (al:Int)∧Hid (OW w (bytO 5 (Ak,ck,kb)::boxO gb [.slice A n c,.int .i64 e.fam,.slice B m d,.int .i64 e.ts,.int .i64 e.seq,.int .i64 e.kind,.slice D v q]::(bldO R g s mm ++ rest)) wx))
 case first =>
  by_cases hf:N % R=0
  ·have hb1:fb=true:=by rw [HFB.out];exact decide_eq_true hf
   have ha:al=0:=by rw [HAL.out];unfold alikeB;rw [← HN.out,if_pos hf]
   clear HFB
   subst hb1
   go_wp2_with fail
   go_meet
   exact ⟨by rw [ha];rfl,HX⟩
  ·have hb1:fb=false:=by rw [HFB.out];exact decide_eq_false hf
   have ha:al=shareN s.key kb:=by rw [HAL.out];unfold alikeB;rw [← HN.out,if_neg hf]
   clear HFB
   subst hb1
   go_wp2_with (first
    | (refine wpList_load_cell rfl 34 (.tmp 47) rfl rfl (HX.out.cell (i:=2) (j:=10) rfl rfl) Tryz.isAgg34 ?_)
    | (go_at_call 162;go_must (refine (shared_any s.key kb mm.K Ak s.key.length mm.kc kn ck _ (by have:=HKL.out;omega) (HX.out.sl (i:=7) rfl rfl).rb (HX.out.sl (i:=0) rfl HKN.out).rb).mono ?_);rintro r z5 ⟨rfl,hb⟩;replace HX:=Lib.hid (HX.out.later hb);clear hb))
   go_meet
   exact ⟨by rw [ha],HX⟩
 clear HX
 obtain ⟨rfl,HX⟩:=hcut
 obtain ⟨w6,rfl⟩:∃ z:World,z=wc:=⟨_,rfl⟩
 have HALT:Hid (al < kn):=Lib.hid (by have h9:=alike_lt (R:=R) HALL.out HC.out HLO.out;rw [HAL.out,HS0.out,← HKN.out,HKB.out];exact h9)
 have halt:=HALT.out
 obtain ⟨gk,cpk,hv,_⟩:=own_form (HX.out.row (i:=0) rfl) (by show 0 < kb.length;have:=HKN.out;omega)
 injection hv with hv _ hcp
 subst hv
 subst hcp
 obtain ⟨U,hU⟩:∃ z,z=uintB al:=⟨_,rfl⟩
 obtain ⟨un,hun⟩:∃ z,z=U.length:=⟨_,rfl⟩
 have hun2:un≤10:=by rw [hun,hU];exact uintB_le10 (by omega)
 have HU:=Lib.hid hU
 have HUN:=Lib.hid hun.symm
 obtain ⟨kd,hkd⟩:∃ z,z=kb.drop al:=⟨_,rfl⟩
 have HKD:=Lib.hid hkd
 have hkdl:kd.length=kn - al:=by rw [hkd,List.length_drop,HKN.out]
 have HKDL:=Lib.hid hkdl
 obtain ⟨V,hV⟩:∃ z,z=uintB kd.length ++ kd:=⟨_,rfl⟩
 obtain ⟨vn,hvn⟩:∃ z,z=V.length:=⟨_,rfl⟩
 have hvn2:vn≤1058:=by rw [hvn,hV,List.length_append];have:=uintB_le10 (n:=kd.length) (by omega);omega
 have HV:=Lib.hid hV
 have HVN:=Lib.hid hvn.symm
 clear hU hun hkd hkdl hV hvn
 have HCK:Hid (kn≤ck):=Lib.hid (HX.out.sl (i:=0) rfl HKN.out).cap
 have HSD:Hid (∀ z,Sl z (some ⟨gk,0,none⟩) kn ck kb→Sl z (some ⟨gk,al,none⟩) (kn - al) (ck - al) kd):=Lib.hid fun z h=>by
  have h1:=h.drop (k:=al) (by omega) (by have:=HCK.out;omega)
  rw [← HKD.out,Option.map_some,show (⟨gk,0,none⟩:Addr).add al=⟨gk,al,none⟩ from by simp [Addr.add];omega] at h1
  exact h1
 have i1:(0:Int)≤(al:Int):=by omega
 have i2:(al:Int)≤(kn:Int):=by omega
 have i3:(kn:Int)≤(ck:Int):=by have:=HCK.out;omega
 have tk:True:=trivial
 go_wp2_with (first
  | (go_at_call 113;go_must (refine (uint_any al _ (by omega)).mono ?_);rw [← HU.out];rintro r z7 hp;obtain ⟨A1,c1,rfl,_,ho,hb⟩:=hp.at_ (n:=un) HUN.out;replace HX:=Lib.hid (HX.out.addF9 (OW.byt1 hb ho));clear hp ho hb)
  | (go_at_call 112;have _t:=tk;go_must (refine (bytes_any kd _ (kn - al) _ _ (by omega) (HSD.out _ (HX.out.sl (i:=1) rfl HKN.out)).rb).mono ?_);rw [← HV.out];rintro r z8 hp;obtain ⟨A2,c2,rfl,_,ho,hb⟩:=hp.at_ (n:=vn) HVN.out;replace HX:=Lib.hid (HX.out.addF9 (OW.byt1 hb ho));clear hp ho hb tk)
  | (at_builtin;go_must (refine wl_append rfl (.tmp 54) (.tmp 58) rfl Tryz.u8s' HX.out 1 (v := .slice A1 un c1) (n:=un) (cs:=u8s U) (by show some (bytO _ (A1,c1,U))=_;unfold bytO;rw [HUN.out];rfl) rfl _ _ vn _ (u8s V) rfl (HX.out.sl (i:=0) rfl HVN.out).rb (u8s_one V) (by unfold maxLen;omega) (by omega) ?_);intro A3 c3 z9 hz _;replace HX:=Lib.hid hz;clear hz)
  | (refine wpList_load_cell rfl 34 (.tmp 61) rfl rfl (HX.out.cell (i:=3) (j:=6) rfl rfl) Tryz.isAgg34 ?_))
 have HVL:Hid (e.val.length=v):=Lib.hid (HEE.out ([_,_,_,_] ++ bldO R g s mm) _ HX.out).val.len
 have hv1:v≤131072:=by have:=HOK.out.val.1;have:=HVL.out;omega
 obtain ⟨W,hW⟩:∃ z,z=uintB e.val.length ++ e.val:=⟨_,rfl⟩
 obtain ⟨wn,hwn⟩:∃ z,z=W.length:=⟨_,rfl⟩
 have hwn2:wn≤v + 10:=by rw [hwn,hW,List.length_append];have:=uintB_le10 (n:=e.val.length) (by have:=HVL.out;omega);have:=HVL.out;omega
 have HW:=Lib.hid hW
 have HWN:=Lib.hid hwn.symm
 clear hW hwn
 obtain ⟨P,pc,hpv,_⟩:=own_slice (HX.out.row (i:=6) rfl)
 obtain ⟨pl,hpl⟩:∃ z,z=s.places.length:=⟨_,rfl⟩
 rw [← hpl] at hpv
 have HPV:Hid (∀ o:Option Value,o=some mm.pv→o=some (.slice P pl pc)):=Lib.hid fun o h=>by rw [h,hpv]
 have HPL:=Lib.hid hpl
 have HPE:=Lib.hid hpv
 have hplb:pl≤131072:=by have:=HSZ.out;unfold sizeS at this;omega
 clear hpv hpl
 go_upto_if 70 with (first
  | (go_at_call 112;go_must (refine (bytes_any e.val D v q _ (by omega) (HEE.out ([_,_,_,_] ++ bldO R g s mm) _ HX.out).val.rb).mono ?_);rw [← HW.out];rintro r z10 hp;obtain ⟨A4,c4,rfl,_,ho,hb⟩:=hp.at_ (n:=wn) HWN.out;replace HX:=Lib.hid (HX.out.addF9 (OW.byt1 hb ho));clear hp ho hb)
  | (at_builtin;go_must (refine wl_append rfl (.tmp 60) (.tmp 63) rfl Tryz.u8s' HX.out 2 rfl rfl _ _ wn _ (u8s W) rfl (HX.out.sl (i:=0) rfl HWN.out).rb (u8s_one W) (by unfold maxLen;omega) (by omega) ?_);intro A5 c5 z11 hz _;replace HX:=Lib.hid hz;clear hz)
  | (refine wpList_load_cell rfl 141 (.tmp 67) rfl rfl (HPV.out _ (HX.out.cell (i:=5) (j:=2) rfl rfl)) Tryz.isAgg141 ?_))
 obtain ⟨w7,rfl⟩:∃ z:World,z=z11:=⟨_,rfl⟩
 obtain ⟨pn,hpn⟩:∃ z,z=(placesB R s).length:=⟨_,rfl⟩
 have HPN:=Lib.hid hpn
 clear hpn
 go_cut [10] (fun p wx=>w7=wx∧p = .int .i64 (pn:Int))
 case first =>
  by_cases hf:N % R=0
  ·have hb1:fb=true:=by rw [HFB.out];exact decide_eq_true hf
   have ha:pn=pl + 1:=by rw [HPN.out,HPL.out];unfold placesB;rw [← HN.out,if_pos hf,List.length_append];rfl
   clear HFB
   subst hb1
   go_wp2_with fail
   go_meet
   exact ⟨rfl,by rw [ha];rfl⟩
  ·have hb1:fb=false:=by rw [HFB.out];exact decide_eq_false hf
   have ha:pn=pl:=by rw [HPN.out,HPL.out];unfold placesB;rw [← HN.out,if_neg hf]
   clear HFB
   subst hb1
   go_wp2_with fail
   go_meet
   exact ⟨rfl,by rw [ha]⟩
 obtain ⟨rfl,rfl⟩:=hcut
 obtain ⟨rn,hrn⟩:∃ z,z=un + vn + wn:=⟨_,rfl⟩
 rw [← hrn] at HX ⊢
 obtain ⟨RW,hRW⟩:∃ z,z=U ++ V ++ W:=⟨_,rfl⟩
 have HRW:Hid (RW=rowK al kb e.val):=Lib.hid (by rw [hRW,HU.out,HV.out,HW.out,HKD.out];rfl)
 have HRN:Hid (RW.length=rn):=Lib.hid (by rw [hRW,hrn,List.length_append,List.length_append,HUN.out,HVN.out,HWN.out])
 obtain ⟨bl,hbl⟩:∃ z,z=s.body.length:=⟨_,rfl⟩
 have HBL:=Lib.hid hbl
 have hblb:bl≤131072:=by have:=HSZ.out;unfold sizeS at this;omega
 have hrnb:rn≤140000:=by omega
 have hpnb:pn≤131073:=by
  have:=HSZ.out
  unfold sizeS at this
  rw [HPN.out];unfold placesB
  split
  ·rw [List.length_append];simp;omega
  ·omega
 have HSS:Hid (sizeS (stepB R s kb e.val)=bl + rn + 4 * pn + 9):=Lib.hid (by
  have h1:(stepB R s kb e.val).body=s.body ++ rowK (alikeB R s kb) kb e.val:=rfl
  have h2:(stepB R s kb e.val).places=placesB R s:=rfl
  unfold sizeS
  rw [h1,h2,List.length_append,← HAL.out,← HRW.out,HRN.out,← HPN.out,← hbl])
 have HX8:Hid (OW w (bytO 5 (A4,c4,W)::bytO 5 (A2,c2,V)::bytO 5 (A5,c5,RW)::bytO 5 (some ⟨gk,0,none⟩,ck,kb)::boxO gb [.slice A n c,.int .i64 e.fam,.slice B m d,.int .i64 e.ts,.int .i64 e.seq,.int .i64 e.kind,.slice D v q]::boxO g (bldC R (.slice mm.B bl mm.bc) (.slice P pl pc) mm.A mm.e.row.length mm.ac mm.Q mm.e.qual.length mm.qc mm.e (.slice mm.K s.key.length mm.kc) N)::bytO 5 (mm.B,mm.bc,s.body)::rowO 3 1 (.slice P pl pc) pl (s.places.map i64v)::bytO 5 (mm.A,mm.ac,mm.e.row)::bytO 5 (mm.Q,mm.qc,mm.e.qual)::bytO 5 (mm.K,mm.kc,s.key)::rest) w7):=Lib.hid (by
  have h:=HX.out
  have e1:rowO 5 1 (.slice A5 rn c5) rn (u8s U ++ u8s V ++ u8s W)=bytO 5 (A5,c5,RW):=by
   unfold bytO rowO
   rw [HRN.out,hRW]
   simp [u8s]
  rw [e1] at h
  simp only [bldO] at h
  rw [← HPE.out,hbl,HN.out,HPL.out]
  exact h)
 clear HX hbl hRW hrn
 by_cases hbig:131072 < bl + rn + 4 * pn + 9
 case pos =>
  have HP:Hid (addC R L e=53∧addL R L e=L):=Lib.hid (by
   have h:addC R L e=53:=by unfold addC;rw [if_neg (fun h=>h HC.out),if_neg HLO.out,if_pos (by rw [← HS0.out,← HKB.out,HSS.out];exact hbig)]
   exact ⟨h,by unfold addL;rw [h,if_neg (by decide)]⟩)
  have h1:(131072:Int) < (bl:Int) + (rn:Int) + 4 * (pn:Int) + 9:=by omega
  clear hbig
  go_wp2_with (refine wpList_load_cell rfl 34 (.tmp 75) rfl rfl (HX8.out.cell (i:=5) (j:=1) rfl rfl) Tryz.isAgg34 ?_)
  go_ret
  refine ⟨by rw [HP.out.1];rfl,bldO R g s mm,by rw [HP.out.2];exact ⟨HRR.out,by rw [← HS0.out];exact HSZ.out,by rw [← HS0.out];exact HKL.out,HALL.out,mm,by rw [← HS0.out],HLA.out⟩,?_⟩
  have h:=HX8.out.sub ((((((List.Sublist.refl _).cons _).cons _).cons _).cons _).cons _)
  simp only [bldO]
  rw [← HPE.out,HBL.out,HN.out,HPL.out] at h
  exact h
 have HBG:=Lib.hid hbig
 have h1:¬ (131072:Int) < (bl:Int) + (rn:Int) + 4 * (pn:Int) + 9:=by omega
 clear hbig
 go_upto_if 86 with (refine wpList_load_cell rfl 34 (.tmp 75) rfl rfl (HX8.out.cell (i:=5) (j:=1) rfl rfl) Tryz.isAgg34 ?_)
 go_cut [10] (fun p wx=>p = .int .i64 (pn:Int)∧Hid (∃ pv,OW w (bytO 5 (A4,c4,W)::bytO 5 (A2,c2,V)::bytO 5 (A5,c5,RW)::bytO 5 (some ⟨gk,0,none⟩,ck,kb)::boxO gb [.slice A n c,.int .i64 e.fam,.slice B m d,.int .i64 e.ts,.int .i64 e.seq,.int .i64 e.kind,.slice D v q]::boxO g (bldC R (.slice mm.B bl mm.bc) (pv) mm.A mm.e.row.length mm.ac mm.Q mm.e.qual.length mm.qc mm.e (.slice mm.K s.key.length mm.kc) N)::bytO 5 (mm.B,mm.bc,s.body)::rowO 3 1 (pv) pn ((placesB R s).map i64v)::bytO 5 (mm.A,mm.ac,mm.e.row)::bytO 5 (mm.Q,mm.qc,mm.e.qual)::bytO 5 (mm.K,mm.kc,s.key)::rest) wx))
 case first =>
  by_cases hf:N % R=0
  ·have hb1:fb=true:=by rw [HFB.out];exact decide_eq_true hf
   have HPB:Hid (placesB R s=s.places ++ [bl]):=Lib.hid (by unfold placesB;rw [← HN.out,if_pos hf,← HBL.out])
   have HPN1:Hid (pn=pl + 1):=Lib.hid (by rw [HPN.out,HPB.out,List.length_append,← HPL.out];rfl)
   clear HFB
   subst hb1
   go_wp2_with fail
   refine lt_start [11,14] (by kernel_rfl) ?_
   intro xd hd
   refine ⟨fun z=>OW w (bytO 5 (A4,c4,W)::bytO 5 (A2,c2,V)::bytO 5 (A5,c5,RW)::bytO 5 (some ⟨gk,0,none⟩,ck,kb)::boxO gb [.slice A n c,.int .i64 e.fam,.slice B m d,.int .i64 e.ts,.int .i64 e.seq,.int .i64 e.kind,.slice D v q]::boxO g (bldC R (.slice mm.B bl mm.bc) (.slice P pl pc) mm.A mm.e.row.length mm.ac mm.Q mm.e.qual.length mm.qc mm.e (.slice mm.K s.key.length mm.kc) N)::bytO 5 (mm.B,mm.bc,s.body)::rowO 3 1 (.slice P pl pc) pl (s.places.map i64v)::bytO 5 (mm.A,mm.ac,mm.e.row)::bytO 5 (mm.Q,mm.qc,mm.e.qual)::bytO 5 (mm.K,mm.kc,s.key)::rest) z,?_⟩
   have HS:=Lib.hid (HX8.out.later hd)
   refine lp2 0 rfl (fun _=>HS.out) ?_
   simp only [Act.put,ls]
   refine lp2 1 rfl (fun _=>HS.out) ?_
   simp only [Act.put,ls]
   refine lp2 2 rfl (fun _=>HS.out) ?_
   simp only [Act.put,ls]
   refine lp2 3 rfl (fun _=>HS.out) ?_
   simp only [Act.put,ls]
   refine lq 4 [11,12,13,14] rfl (yi_cell rfl rfl rfl (fun w hS=>OW.cell hS (i:=5) (j:=2) rfl rfl) Tryz.isAgg141) HS.out ?_
   simp only [Act.put,ls]
   refine lp2 5 rfl (fun _=>HS.out) ?_
   simp only [Act.put,ls]
   refine lp2 6 rfl (fun _=>HS.out) ?_
   simp only [Act.put,ls]
   refine lp2 7 rfl (fun _=>HS.out) ?_
   simp only [Act.put,ls]
   refine lq 8 [9,10,11,12,13,14] rfl (yi_cell rfl rfl rfl (fun w hS=>OW.cell hS (i:=5) (j:=1) rfl rfl) Tryz.isAgg34) HS.out ?_
   simp only [Act.put,ls]
   refine lp2 9 rfl (fun _=>HS.out) ?_
   simp only [Act.put,ls]
   refine lt_op 10 rfl (by kernel_rfl) rfl ?_
   refine wpo_build rfl #[.int .i64 (bl:Int)] Tryz.intS5 (.int .i64 0) (by kernel_rfl) (by decide) (by decide) (by decide) rfl (by kernel_rfl) HS.out ?_
   intro g4 x4 hz hb
   have HR:Hid (Reads x4 x4.heap.size 1 (some ⟨g4,0,none⟩) 1 [.int .i64 (bl:Int)]):=Lib.hid (Reads.own (OW.row (OW.right hz) (i:=0) rfl))
   replace HS:=Lib.hid (HS.out.later hb)
   clear hz hb
   refine ⟨fun _=>HS.out,?_⟩
   simp only [Act.put,ls]
   refine lt_end 11 rfl (by kernel_rfl) rfl (by kernel_rfl) ?_
   refine wpo_append (.tmp 91) (.tmp 97) rfl Tryz.intS5 HS.out 7 rfl rfl _ (some ⟨g4,0,none⟩) 1 1 [.int .i64 (bl:Int)] rfl HR.out (by simp [Value.oneCell']) (by unfold maxLen;omega) (by omega) ?_
   intro A7 c7 x5 hz _
   have HY:=Lib.hid hz
   clear hz HR
   simp only [Act.put,ls]
   refine lt_pureF 12 rfl (by kernel_rfl) (by kernel_rfl) (by kernel_rfl) (by kernel_rfl) (by kernel_rfl) (fun _ _ _ h=>h) (v:=?_) (yi_run rfl (fun w=>?_)) ?_
   rotate_left
   ·first | (go_simp;done) | (go_simp;with_reducible rfl)
   simp only [Act.put,ls]
   refine lt_pureF 13 rfl (by kernel_rfl) (by kernel_rfl) (by kernel_rfl) (by kernel_rfl) (by kernel_rfl) (fun _ _ _ h=>h) (v:=?_) (yi_run rfl (fun w=>?_)) ?_
   rotate_left
   ·first | (go_simp;done) | (go_simp;with_reducible rfl)
   simp only [Act.put,ls]
   refine lt_end 14 rfl (by kernel_rfl) rfl (by kernel_rfl) ?_
   refine wpo_put1 rfl HY.out 5 rfl 2 rfl (by show 2 < 12;decide) _ rfl (by kernel_rfl) rfl ?_
   intro x6 hz _
   replace HY:=Lib.hid hz
   clear hz
   simp only [Act.put]
   refine lt_done (by kernel_rfl) ?_
   clear HS
   go_wp2_with fail
   go_meet
   refine ⟨rfl,Lib.hid ⟨.slice A7 (pl + 1) c7,?_⟩⟩
   rw [HPB.out,HPN1.out,List.map_append]
   exact HY.out
  ·have hb1:fb=false:=by rw [HFB.out];exact decide_eq_false hf
   have HPB:Hid (placesB R s=s.places):=Lib.hid (by unfold placesB;rw [← HN.out,if_neg hf])
   have HPN1:Hid (pn=pl):=Lib.hid (by rw [HPN.out,HPB.out,← HPL.out])
   clear HFB
   subst hb1
   go_wp2_with fail
   go_meet
   refine ⟨rfl,Lib.hid ⟨.slice P pl pc,?_⟩⟩
   rw [HPB.out,HPN1.out]
   exact HX8.out
 clear HX8
 obtain ⟨rfl,hcut⟩:=hcut
 obtain ⟨pv,hx9⟩:=hcut.out
 have HX:=Lib.hid hx9
 clear hx9 hcut
 obtain ⟨w8,rfl⟩:∃ z:World,z=wc:=⟨_,rfl⟩
 go_wp2_with (first
  | (refine wpList_load_cell rfl 34 (.tmp 104) rfl rfl (HX.out.cell (i:=5) (j:=1) rfl rfl) Tryz.isAgg34 ?_)
  | (at_builtin;go_must (refine wl_append rfl (.tmp 105) (.tmp 106) rfl Tryz.u8s' HX.out 6 (v := .slice mm.B bl mm.bc) (n:=bl) (cs:=u8s s.body) (by show some (bytO _ (mm.B,mm.bc,s.body))=_;unfold bytO;rw [HBL.out];rfl) rfl _ _ rn _ (u8s RW) rfl (HX.out.sl (i:=2) rfl HRN.out).rb (u8s_one RW) (by unfold maxLen;omega) (by omega) ?_);intro A8 c8 z9 hz _;replace HX:=Lib.hid hz;clear hz)
  | (refine wl_put1 rfl (.tmp 109) (.tmp 107) rfl HX.out 5 rfl 1 rfl (by show 1 < 12;decide) _ rfl (by kernel_rfl) rfl ?_;intro z10 hz _;replace HX:=Lib.hid hz;clear hz))
 obtain ⟨BN,hBN⟩:∃ z,z=s.body ++ RW:=⟨_,rfl⟩
 have HBN:=Lib.hid hBN
 have HX9:Hid (OW w (bytO 5 (A4,c4,W)::bytO 5 (A2,c2,V)::bytO 5 (A5,c5,RW)::bytO 5 (some ⟨gk,0,none⟩,ck,kb)::boxO gb [.slice A n c,.int .i64 e.fam,.slice B m d,.int .i64 e.ts,.int .i64 e.seq,.int .i64 e.kind,.slice D v q]::boxO g (bldC R (.slice A8 BN.length c8) (pv) mm.A mm.e.row.length mm.ac mm.Q mm.e.qual.length mm.qc mm.e (.slice mm.K s.key.length mm.kc) N)::bytO 5 (A8,c8,BN)::rowO 3 1 pv pn ((placesB R s).map i64v)::bytO 5 (mm.A,mm.ac,mm.e.row)::bytO 5 (mm.Q,mm.qc,mm.e.qual)::bytO 5 (mm.K,mm.kc,s.key)::rest) z10):=Lib.hid (by
  have h:=HX.out
  have e1:rowO 5 1 (.slice A8 (bl + rn) c8) (bl + rn) (u8s s.body ++ u8s RW)=bytO 5 (A8,c8,BN):=by
   unfold bytO rowO
   rw [hBN,List.length_append,HRN.out,← HBL.out]
   simp [u8s]
  have e2:bl + rn=BN.length:=by rw [hBN,List.length_append,HRN.out,← HBL.out]
  rw [← e1,← e2]
  exact h)
 clear HX hBN
 have HQL:Hid (e.qual.length=m):=Lib.hid (HEE.out (_::_::_::_::_::_::_::_::_::_::_::[]) _ HX9.out).qual.len
 have HRL:Hid (e.row.length=n):=Lib.hid (HEE.out (_::_::_::_::_::_::_::_::_::_::_::[]) _ HX9.out).row.len
 have hn1:n≤256:=by have:=HOK.out.row.2;have:=HRL.out;omega
 have hm1:m≤256:=by have:=HOK.out.qual.1;have:=HQL.out;omega
 refine lt_start [7,9,11] (by kernel_rfl) ?_
 intro xd hd
 have HY:=Lib.hid (HX9.out.later hd)
 clear HX9 hd
 refine ⟨fun z=>Below xd.heap.size xd z,?_⟩
 have HS:=Lib.hid (Below.refl xd.heap.size xd)
 refine lp2 0 rfl (fun _=>HS.out) ?_
 simp only [Act.put,ls]
 refine lq 1 [2,5,6,7,8,9,10,11] rfl (yi_cell rfl rfl rfl (fun w hS=>OW.cell (HY.out.later hS) (i:=4) (j:=0) rfl rfl) Tryz.isAgg34) HS.out ?_
 simp only [Act.put,ls]
 refine lp2 3 rfl (fun _=>HS.out) ?_
 simp only [Act.put,ls]
 refine lq 4 [5,6,7,8,9,10,11] rfl (yi_cell rfl rfl rfl (fun w hS=>OW.cell (HY.out.later hS) (i:=4) (j:=2) rfl rfl) Tryz.isAgg34) HS.out ?_
 simp only [Act.put,ls]
 refine lt_call 2 rfl (by kernel_rfl) rfl rfl ⟨_,Tryz.func163,by decide,by kernel_rfl⟩ [.slice A n c] rfl ?_
 refine (sclone_any e.row A n c _ (by omega) (HEE.out (_::_::_::_::_::_::_::_::_::_::_::[]) _ HY.out).row.nil (HEE.out (_::_::_::_::_::_::_::_::_::_::_::[]) _ HY.out).row.rb).mono ?_
 rintro r y1 hp
 obtain ⟨A9,c9,rfl,_,ho,hb⟩:=hp.at_ HRL.out
 replace HS:=Lib.hid (HS.out.trans (hb.mono HS.out.size))
 replace HY:=Lib.hid (HY.out.addF9 (OW.byt1 hb ho))
 clear hp ho hb
 refine ⟨_,rfl,fun _=>HS.out,?_⟩
 simp only [Act.put,ls]
 refine lp2 6 rfl (fun _=>HS.out) ?_
 simp only [Act.put,ls]
 refine lt_call 5 rfl (by kernel_rfl) rfl rfl ⟨_,Tryz.func163,by decide,by kernel_rfl⟩ [.slice B m d] rfl ?_
 refine (sclone_any e.qual B m d _ (by omega) (HEE.out (_::_::_::_::_::_::_::_::_::_::_::_::[]) _ HY.out).qual.nil (HEE.out (_::_::_::_::_::_::_::_::_::_::_::_::[]) _ HY.out).qual.rb).mono ?_
 rintro r y2 hp
 obtain ⟨A10,c10,rfl,_,ho,hb⟩:=hp.at_ HQL.out
 replace HS:=Lib.hid (HS.out.trans (hb.mono HS.out.size))
 replace HY:=Lib.hid (HY.out.addF9 (OW.byt1 hb ho))
 clear hp ho hb
 refine ⟨_,rfl,fun _=>HS.out,?_⟩
 simp only [Act.put,ls]
 refine lt_end 7 rfl (by kernel_rfl) rfl (by kernel_rfl) ?_
 refine wpo_put1 rfl HY.out 6 rfl 0 rfl (by show 0 < 7;decide) _ rfl (by kernel_rfl) rfl ?_
 intro x7 hz _
 replace HY:=Lib.hid hz
 clear hz
 simp only [Act.put]
 refine lt_pureF 8 rfl (by kernel_rfl) (by kernel_rfl) (by kernel_rfl) (by kernel_rfl) (by kernel_rfl) (fun _ _ _ h=>h) (v:=?_) (yi_run rfl (fun w=>?_)) ?_
 rotate_left
 ·first | (go_simp;done) | (go_simp;with_reducible rfl)
 simp only [Act.put,ls]
 refine lt_end 9 rfl (by kernel_rfl) rfl (by kernel_rfl) ?_
 refine wpo_put1 rfl HY.out 6 rfl 2 rfl (by show 2 < 7;decide) _ rfl (by kernel_rfl) rfl ?_
 intro x8 hz _
 replace HY:=Lib.hid hz
 clear hz
 simp only [Act.put]
 refine lt_pureF 10 rfl (by kernel_rfl) (by kernel_rfl) (by kernel_rfl) (by kernel_rfl) (by kernel_rfl) (fun _ _ _ h=>h) (v:=?_) (yi_run rfl (fun w=>?_)) ?_
 rotate_left
 ·first | (go_simp;done) | (go_simp;with_reducible rfl)
 simp only [Act.put,ls]
 refine lt_end 11 rfl (by kernel_rfl) rfl (by kernel_rfl) ?_
 refine wpo_put1 rfl HY.out 6 rfl 6 rfl (by show 6 < 7;decide) _ rfl (by kernel_rfl) rfl ?_
 intro x9 hz _
 replace HY:=Lib.hid hz
 clear hz
 simp only [Act.put]
 refine lt_done (by kernel_rfl) ?_
 clear HS
 have HY:Hid (OW w (bytO 5 (A10,c10,e.qual)::bytO 5 (A9,c9,e.row)::bytO 5 (A4,c4,W)::bytO 5 (A2,c2,V)::bytO 5 (A5,c5,RW)::bytO 5 (some ⟨gk,0,none⟩,ck,kb)::boxO gb [.slice A9 n c9,.int .i64 e.fam,.slice A10 m c10,.int .i64 e.ts,.int .i64 e.seq,.int .i64 e.kind,.slice none 0 0]::boxO g (bldC R (.slice A8 BN.length c8) (pv) mm.A mm.e.row.length mm.ac mm.Q mm.e.qual.length mm.qc mm.e (.slice mm.K s.key.length mm.kc) N)::bytO 5 (A8,c8,BN)::rowO 3 1 pv pn ((placesB R s).map i64v)::bytO 5 (mm.A,mm.ac,mm.e.row)::bytO 5 (mm.Q,mm.qc,mm.e.qual)::bytO 5 (mm.K,mm.kc,s.key)::rest) x9):=Lib.hid HY.out
 have hnn:(0:Int)≤(N:Int):=by omega
 go_wp2_with (first
  | (refine wpList_load_row7 rfl 60 (.tmp 3) rfl rfl (HY.out.range (i:=6) rfl) ent_row5 ?_)
  | (refine wl_putAt rfl (.tmp 124) (.tmp 121) rfl HY.out 7 rfl rfl [.slice A9 n c9,.int .i64 e.fam,.slice A10 m c10,.int .i64 e.ts,.int .i64 e.seq,.int .i64 e.kind,.slice none 0 0] rfl (by show 3 + 7≤12;decide) (by kernel_rfl) (by simp [Value.oneCell']) ?_;intro z11 hz _;replace HY:=Lib.hid hz;clear hz)
  | (refine wl_put1 rfl (.tmp 126) (.tmp 122) rfl HY.out 7 rfl 10 rfl (by show 10 < 12;decide) (.slice (some ⟨gk,0,none⟩) kn ck) rfl (by kernel_rfl) rfl ?_;intro z12 hz _;replace HY:=Lib.hid hz;clear hz)
  | (refine wpList_load_cell rfl 3 (.tmp 129) rfl rfl (show _=some (Value.int .i64 (N:Int)) from HY.out.cell (i:=7) (j:=11) rfl rfl) Tryz.isAgg3 ?_)
  | (refine wl_put1 rfl (.tmp 133) (.tmp 131) rfl HY.out 7 rfl 11 rfl (by show 11 < 12;decide) (.int .i64 ((N:Int) + 1)) rfl (by kernel_rfl) rfl ?_;intro z13 hz _;replace HY:=Lib.hid hz;clear hz))
 go_ret
 have HP:Hid (addC R L e=0∧addL R L e=L ++ [e]):=Lib.hid (by
  have h:addC R L e=0:=by unfold addC;rw [if_neg (fun h=>h HC.out),if_neg HLO.out,if_neg (by rw [← HS0.out,← HKB.out,HSS.out];exact HBG.out)]
  exact ⟨h,by unfold addL;rw [h,if_pos rfl]⟩)
 have HRB:Hid (runB R (L ++ [e])=stepB R s kb e.val):=Lib.hid (by rw [runB_snoc,← HS0.out,← HKB.out])
 refine ⟨by rw [HP.out.1];rfl,bldO R g (stepB R s kb e.val) ⟨A8,c8,pv,A9,c9,A10,c10,some ⟨gk,0,none⟩,ck,{ e with val:=[] }⟩,?_,?_⟩
 ·rw [HP.out.2]
  refine ⟨HRR.out,?_,?_,?_,⟨A8,c8,pv,A9,c9,A10,c10,some ⟨gk,0,none⟩,ck,{ e with val:=[] }⟩,?_,?_⟩
  ·rw [HRB.out,HSS.out];have:=HBG.out;omega
  ·rw [HRB.out];show kb.length≤_;have:=HKN.out;omega
  ·intro l hl
   rcases List.mem_append.1 hl with h | h
   ·exact HALL.out l h
   ·obtain rfl:=List.mem_singleton.1 h;exact HC.out
  ·rw [HRB.out]
  ·intro l hl
   rw [List.getLast?_append] at hl
   injection hl with hl
   subst hl;rfl
 ·have h:=HY.out
  have h:=(((((h.front (i:=5) rfl).front (i:=1) rfl).front (i:=2) rfl).front (i:=9) rfl).front (i:=9) rfl).front (i:=9) rfl
  have e1:(stepB R s kb e.val).body=BN:=by rw [HBN.out,HRW.out,HAL.out];rfl
  have e2:(stepB R s kb e.val).places=placesB R s:=rfl
  have e3:(stepB R s kb e.val).key=kb:=rfl
  have e4:(stepB R s kb e.val).n=N + 1:=by rw [HN.out];rfl
  simp only [bldO]
  rw [e1,e2,e3,e4,← HPN.out,HRL.out,HQL.out,HKN.out]
  exact OW.sub h (.cons_cons _ (.cons_cons _ (.cons_cons _ (.cons_cons _ (.cons_cons _ (.cons_cons _ (.cons _ (.cons _ (.cons _ (.cons _ (.cons _ (.cons _ (.cons _ (List.Sublist.refl _))))))))))))))
end Go.Proofs.YtfdbcfaeiglbeaaGreatDoor
