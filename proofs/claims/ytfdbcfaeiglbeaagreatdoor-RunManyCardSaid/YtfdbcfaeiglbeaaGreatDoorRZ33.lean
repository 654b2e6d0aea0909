/-
 RunL1.
-/
import Derived.Test.YtfdbcfaeiglbeaaGreatDoorRZ30
import Derived.Test.YtfdbcfaeiglbeaaGreatDoorRZ32
namespace Go.Proofs.YtfdbcfaeiglbeaaGreatDoor
open Go.RowKit
theorem num7_any (k:Int) (w:World):Calls Tryz.prog 20 #[.int .i64 k] w fun e z=>e = .returned (.int .i64 k)∧z=w:=by
 go_enter Tryz.func20,Tryz.ntmps20
 go_wp2_with fail
 go_ret
 exact ⟨rfl,rfl⟩
theorem whole_any (n lo hi:Int) (h0:0≤lo) (h1:lo≤hi) (h2:hi≤2199023255552) (w:World):Calls Tryz.prog 33 #[.int .i64 n,.int .i64 lo,.int .i64 hi] w fun e z=>e = .returned (.int .i64 (wholeI n lo hi))∧z=w:=by
 obtain ⟨d,hd⟩:∃ d,d=hi - lo + 1:=⟨_,rfl⟩
 have s1:IntKind.i64.wrap (hi - lo)=hi - lo:=i64_sum (by omega) (by omega)
 have s2:IntKind.i64.wrap (hi - lo + 1)=d:=by rw [← hd];exact i64_sum (by omega) (by omega)
 have hd0:¬ d=0:=by omega
 have r1:=Int.tmod_lt_of_pos n (show 0 < d by omega)
 have r2:=Int.lt_tmod_of_pos n (show 0 < d by omega)
 obtain ⟨m,hm⟩:∃ m,m=n.tmod d:=⟨_,rfl⟩
 have HW:Hid (wholeI n lo hi=if m < 0 then lo + (m + hi - lo + 1) else lo + m):=Lib.hid (by unfold wholeI;rw [← hd,← hm])
 rw [← hm] at r1 r2
 have hm2:n.tmod d=m:=hm.symm
 obtain ⟨W,hW⟩:∃ W,W=wholeI n lo hi:=⟨_,rfl⟩
 rw [← hW] at HW ⊢
 clear hW
 by_cases g:m < 0
 case pos =>
  have m1:decide (m < 0)=true:=decide_eq_true g
  have t1:IntKind.i64.wrap (m + hi)=m + hi:=i64_sum (by omega) (by omega)
  have t2:IntKind.i64.wrap (m + hi - lo)=m + hi - lo:=i64_sum (by omega) (by omega)
  have t3:IntKind.i64.wrap (m + hi - lo + 1)=m + hi - lo + 1:=i64_sum (by omega) (by omega)
  have t4:IntKind.i64.wrap (lo + (m + hi - lo + 1))=W:=by rw [HW.out,if_pos g];exact i64_sum (by omega) (by omega)
  clear hm hd HW
  go_enter Tryz.func33,Tryz.ntmps33
  go_wp2_with fail
  go_ret
  exact ⟨rfl,rfl⟩
 have m1:decide (m < 0)=false:=decide_eq_false g
 have t4:IntKind.i64.wrap (lo + m)=W:=by rw [HW.out,if_neg g];exact i64_sum (by omega) (by omega)
 clear hm hd HW
 go_enter Tryz.func33,Tryz.ntmps33
 go_wp2_with fail
 go_ret
 exact ⟨rfl,rfl⟩
def optV (o:OptR):Value := .agg #[.int .i64 o.block,.int .i64 o.bits,.int .i64 o.index,.int .i64 o.low,.int .i64 o.clock]
set_option maxRecDepth 1000000 in
set_option maxHeartbeats 4000000 in
theorem options_any (o:OptR) (w:World):Calls Tryz.prog 25 #[optV o] w fun e z=>e = .returned (optV (optF o))∧Below w.heap.size w z:=by
 obtain ⟨b,bi,ix,lw,ck⟩:=o
 unfold optF optV
 dsimp only
 obtain ⟨c,hc⟩:∃ c,c=wholeI ck 1 1099511627776:=⟨_,rfl⟩
 have hcb:=wholeI_in ck 1 1099511627776 (by decide)
 rw [← hc] at hcb ⊢
 have HC:=Lib.hid hc.symm
 obtain ⟨v0,hv0⟩:∃ c,c=wholeI b 64 65536:=⟨_,rfl⟩
 obtain ⟨v1,hv1⟩:∃ c,c=wholeI bi 0 20:=⟨_,rfl⟩
 obtain ⟨v2,hv2⟩:∃ c,c=wholeI ix 0 1099511627776:=⟨_,rfl⟩
 obtain ⟨v3,hv3⟩:∃ d,d=wholeI lw 0 (c - 1):=⟨_,rfl⟩
 rw [← hv0,← hv1,← hv2,← hv3]
 have HV0:=Lib.hid hv0.symm
 have HV1:=Lib.hid hv1.symm
 have HV2:=Lib.hid hv2.symm
 have HV3:=Lib.hid hv3.symm
 clear hc hv0 hv1 hv2 hv3
 have s1:IntKind.i64.wrap (c - 1)=c - 1:=i64_sum (by omega) (by omega)
 have HX:=Lib.hid (OW.nil w)
 go_enter Tryz.func25,Tryz.ntmps25
 go_upto_region 2 with (first
  | (refine wl_box rfl (.tmp 0) rfl [.int .i64 b,.int .i64 bi,.int .i64 ix,.int .i64 lw,.int .i64 ck] rfl HX.out ?_;intro g1 x1 hz _;have HX1:Hid (OW w [boxO g1 [.int .i64 b,.int .i64 bi,.int .i64 ix,.int .i64 lw,.int .i64 ck]] x1):=Lib.hid hz;clear hz HX)
  | (refine wl_alloc rfl rfl [.int .i64 0,.int .i64 0,.int .i64 0,.int .i64 0,.int .i64 0] (.inl (by kernel_rfl)) HX1.out ?_;intro g2 x2 hz _;have HX2:Hid (OW w [boxO g1 [.int .i64 b,.int .i64 bi,.int .i64 ix,.int .i64 lw,.int .i64 ck],boxO g2 [.int .i64 0,.int .i64 0,.int .i64 0,.int .i64 0,.int .i64 0]] x2):=Lib.hid hz;clear hz HX1)
  | (refine wpList_load_cell rfl 3 (.tmp 4) rfl rfl (HX2.out.cell (i:=0) (j:=4) rfl rfl) Tryz.isAgg3 ?_)
  | (go_at_call 33;go_must (refine (whole_any ck 1 1099511627776 (by decide) (by decide) (by decide) _).mono ?_);rw [HC.out];rintro e x3 ⟨rfl,rfl⟩))
 refine lt_start [16] (by kernel_rfl) ?_
 intro xd hd
 refine ⟨fun z=>OW w [boxO g1 [.int .i64 b,.int .i64 bi,.int .i64 ix,.int .i64 lw,.int .i64 ck],boxO g2 [.int .i64 0,.int .i64 0,.int .i64 0,.int .i64 0,.int .i64 0]] z,?_⟩
 have HS:=Lib.hid (HX2.out.later hd)
 refine lp2 0 rfl (fun _=>HS.out) ?_
 simp only [Act.put,ls]
 refine lq 1 [2,5,8,13,15,16] rfl (yi_cell rfl rfl rfl (fun w hS=>OW.cell hS (i:=0) (j:=0) rfl rfl) Tryz.isAgg3) HS.out ?_
 simp only [Act.put,ls]
 refine lp2 3 rfl (fun _=>HS.out) ?_
 simp only [Act.put,ls]
 refine lq 4 [5,8,13,15,16] rfl (yi_cell rfl rfl rfl (fun w hS=>OW.cell hS (i:=0) (j:=1) rfl rfl) Tryz.isAgg3) HS.out ?_
 simp only [Act.put,ls]
 refine lp2 6 rfl (fun _=>HS.out) ?_
 simp only [Act.put,ls]
 refine lq 7 [8,13,15,16] rfl (yi_cell rfl rfl rfl (fun w hS=>OW.cell hS (i:=0) (j:=2) rfl rfl) Tryz.isAgg3) HS.out ?_
 simp only [Act.put,ls]
 refine lp2 9 rfl (fun _=>HS.out) ?_
 simp only [Act.put,ls]
 refine lq 10 [13,15,16] rfl (yi_cell rfl rfl rfl (fun w hS=>OW.cell hS (i:=0) (j:=3) rfl rfl) Tryz.isAgg3) HS.out ?_
 simp only [Act.put,ls]
 refine lp2 11 rfl (fun _=>HS.out) ?_
 simp only [Act.put,ls]
 refine lp2 12 rfl (fun _=>HS.out) ?_
 simp only [Act.put,ls]
 refine lp2 14 rfl (fun _=>HS.out) ?_
 simp only [Act.put,ls]
 refine lt_call 2 rfl (by kernel_rfl) rfl rfl ⟨_,Tryz.func33,by decide,by kernel_rfl⟩ [.int .i64 b,.int .i64 64,.int .i64 65536] rfl ?_
 refine (whole_any b 64 65536 (by omega) (by omega) (by omega) _).mono ?_
 rw [HV0.out]
 rintro e x3 ⟨rfl,rfl⟩
 refine ⟨_,rfl,fun _=>HS.out,?_⟩
 simp only [Act.put,ls]
 refine lt_call 5 rfl (by kernel_rfl) rfl rfl ⟨_,Tryz.func33,by decide,by kernel_rfl⟩ [.int .i64 bi,.int .i64 0,.int .i64 20] rfl ?_
 refine (whole_any bi 0 20 (by omega) (by omega) (by omega) _).mono ?_
 rw [HV1.out]
 rintro e x3 ⟨rfl,rfl⟩
 refine ⟨_,rfl,fun _=>HS.out,?_⟩
 simp only [Act.put,ls]
 refine lt_call 8 rfl (by kernel_rfl) rfl rfl ⟨_,Tryz.func33,by decide,by kernel_rfl⟩ [.int .i64 ix,.int .i64 0,.int .i64 1099511627776] rfl ?_
 refine (whole_any ix 0 1099511627776 (by omega) (by omega) (by omega) _).mono ?_
 rw [HV2.out]
 rintro e x3 ⟨rfl,rfl⟩
 refine ⟨_,rfl,fun _=>HS.out,?_⟩
 simp only [Act.put,ls]
 refine lt_call 13 rfl (by kernel_rfl) rfl rfl ⟨_,Tryz.func33,by decide,by kernel_rfl⟩ [.int .i64 lw,.int .i64 0,.int .i64 (c - 1)] rfl ?_
 refine (whole_any lw 0 (c - 1) (by omega) (by omega) (by omega) _).mono ?_
 rw [HV3.out]
 rintro e x3 ⟨rfl,rfl⟩
 refine ⟨_,rfl,fun _=>HS.out,?_⟩
 simp only [Act.put,ls]
 refine lp2 15 rfl (fun _=>HS.out) ?_
 simp only [Act.put,ls]
 have HX3:=HS
 refine lt_end 16 rfl (by kernel_rfl) rfl (by kernel_rfl) ?_
 refine wpo_put rfl HX3.out 1 rfl rfl [.int .i64 v0,.int .i64 v1,.int .i64 v2,.int .i64 v3,.int .i64 c] rfl rfl (by kernel_rfl) (by simp [Value.oneCell']) ?_
 intro x9 hz _
 replace HX3:=Lib.hid hz
 clear hz
 simp only [Act.put]
 refine lt_done (by kernel_rfl) ?_
 clear HS
 go_wp2_with fail
 refine bodyPost_ret (results_rowL rfl _ _ g2 [.int .i64 v0,.int .i64 v1,.int .i64 v2,.int .i64 v3,.int .i64 c] rfl (HX3.out.range (i:=1) rfl) (by kernel_rfl) (by kernel_rfl)) rfl ?_
 exact ⟨rfl,HX3.out.up⟩
set_option maxRecDepth 1000000 in
set_option maxHeartbeats 4000000 in
theorem copied7_any (e:Ent) (A:Option Addr) (n c:Nat) (B:Option Addr) (m d:Nat) (D:Option Addr) (v q:Nat) (w:World) (h:En w A n c B m d D v q e) (hn:n≤140737488355000∧m≤140737488355000∧v≤140737488355000) :
  Calls Tryz.prog 62 #[entV A n c B m d D v q e] w fun r z=>∃ y:ER,y.e=e∧r = .returned y.v∧OW w (rowE y) z:=by
 obtain ⟨hn1,hn2,hn3⟩:=hn
 have HE:Hid (∀ z,Below w.heap.size w z→En z A n c B m d D v q e):=Lib.hid fun z hz=>h.later hz
 have HLR:=Lib.hid h.row.rb.len
 have HLQ:=Lib.hid h.qual.rb.len
 have HLV:=Lib.hid h.val.rb.len
 have HC1:Hid (cutS e.row 0 (n - 0)=e.row):=Lib.hid (by unfold cutS;rw [List.drop_zero,List.take_of_length_le (by rw [h.row.rb.len];omega)])
 have HC2:Hid (cutS e.qual 0 (m - 0)=e.qual):=Lib.hid (by unfold cutS;rw [List.drop_zero,List.take_of_length_le (by rw [h.qual.rb.len];omega)])
 have HC3:Hid (cutS e.val 0 (v - 0)=e.val):=Lib.hid (by unfold cutS;rw [List.drop_zero,List.take_of_length_le (by rw [h.val.rb.len];omega)])
 clear h
 have tok1:True:=trivial
 have tok2:True:=trivial
 have HX:=Lib.hid (OW.nil w)
 go_enter Tryz.func62,Tryz.ntmps62
 go_upto_region 2 with (first
  | (refine wl_box rfl (.tmp 0) rfl [.slice A n c,.int .i64 e.fam,.slice B m d,.int .i64 e.ts,.int .i64 e.seq,.int .i64 e.kind,.slice D v q] rfl HX.out ?_;intro g1 x1 hz _;have HX1:Hid (OW w [boxO g1 [.slice A n c,.int .i64 e.fam,.slice B m d,.int .i64 e.ts,.int .i64 e.seq,.int .i64 e.kind,.slice D v q]] x1):=Lib.hid hz;clear hz HX)
  | (refine wl_alloc rfl rfl [.slice none 0 0,.int .i64 0,.slice none 0 0,.int .i64 0,.int .i64 0,.int .i64 0,.slice none 0 0] (.inl (by kernel_rfl)) HX1.out ?_;intro g2 x2 hz _;have HX2:Hid (OW w [boxO g1 [.slice A n c,.int .i64 e.fam,.slice B m d,.int .i64 e.ts,.int .i64 e.seq,.int .i64 e.kind,.slice D v q],boxO g2 [.slice none 0 0,.int .i64 0,.slice none 0 0,.int .i64 0,.int .i64 0,.int .i64 0,.slice none 0 0]] x2):=Lib.hid hz;clear hz HX1)
  | (refine wpList_load_cell rfl 34 (.tmp 3) rfl rfl (HX2.out.cell (i:=0) (j:=0) rfl rfl) Tryz.isAgg34 ?_)
  | (refine wpList_load_cell rfl 34 (.tmp 5) rfl rfl (HX2.out.cell (i:=0) (j:=0) rfl rfl) Tryz.isAgg34 ?_)
  | (go_at_call 51;go_must (refine (part_any e.row A n c 0 n _ _ rfl rfl _ (HE.out _ HX2.out.up).row (Nat.zero_le _) (Nat.le_refl _) (by omega)).mono ?_);rw [HC1.out];rintro r x3 hp;obtain ⟨A1,c1,rfl,_,ho,hb⟩:=hp.at_ HLR.out;have HX3:=Lib.hid (HX2.out.app (OW.byt1 hb ho));clear hp ho hb HX2)
  | (refine wl_put1 rfl (.tmp 9) (.tmp 8) rfl HX3.out 0 rfl 0 rfl (by simp) (.slice A1 n c1) rfl (by kernel_rfl) rfl ?_;intro x4 hz _;have HX4:Hid (OW w [boxO g1 [.slice A1 n c1,.int .i64 e.fam,.slice B m d,.int .i64 e.ts,.int .i64 e.seq,.int .i64 e.kind,.slice D v q],boxO g2 [.slice none 0 0,.int .i64 0,.slice none 0 0,.int .i64 0,.int .i64 0,.int .i64 0,.slice none 0 0],bytO 5 (A1,c1,e.row)] x4):=Lib.hid hz;clear hz HX3))
 go_upto_region 3 with (first
  | (refine wpList_load_cell rfl 34 (.tmp 10) rfl rfl (HX4.out.cell (i:=0) (j:=2) rfl rfl) Tryz.isAgg34 ?_)
  | (refine wpList_load_cell rfl 34 (.tmp 12) rfl rfl (HX4.out.cell (i:=0) (j:=2) rfl rfl) Tryz.isAgg34 ?_)
  | (go_at_call 51;go_must (refine (part_any e.qual B m d 0 m _ _ rfl rfl _ (HE.out _ HX4.out.up).qual (Nat.zero_le _) (Nat.le_refl _) (by omega)).mono ?_);rw [HC2.out];rintro r x5 hp;obtain ⟨B1,d1,rfl,_,ho,hb⟩:=hp.at_ HLQ.out;have HX5:=Lib.hid (HX4.out.app (OW.byt1 hb ho));clear hp ho hb HX4)
  | (refine wl_put1 rfl (.tmp 16) (.tmp 15) rfl HX5.out 0 rfl 2 rfl (by simp) (.slice B1 m d1) rfl (by kernel_rfl) rfl ?_;intro x6 hz _;have HX6:Hid (OW w [boxO g1 [.slice A1 n c1,.int .i64 e.fam,.slice B1 m d1,.int .i64 e.ts,.int .i64 e.seq,.int .i64 e.kind,.slice D v q],boxO g2 [.slice none 0 0,.int .i64 0,.slice none 0 0,.int .i64 0,.int .i64 0,.int .i64 0,.slice none 0 0],bytO 5 (A1,c1,e.row),bytO 5 (B1,d1,e.qual)] x6):=Lib.hid hz;clear hz HX5))
 go_upto_region 4 with (first
  | (refine wpList_load_cell rfl 34 (.tmp 17) rfl rfl (HX6.out.cell (i:=0) (j:=6) rfl rfl) Tryz.isAgg34 ?_)
  | (refine wpList_load_cell rfl 34 (.tmp 19) rfl rfl (HX6.out.cell (i:=0) (j:=6) rfl rfl) Tryz.isAgg34 ?_)
  | (go_at_call 51;go_must (refine (part_any e.val D v q 0 v _ _ rfl rfl _ (HE.out _ HX6.out.up).val (Nat.zero_le _) (Nat.le_refl _) (by omega)).mono ?_);rw [HC3.out];rintro r x7 hp;obtain ⟨D1,q1,rfl,_,ho,hb⟩:=hp.at_ HLV.out;have HX7:=Lib.hid (HX6.out.app (OW.byt1 hb ho));clear hp ho hb HX6)
  | (refine wl_put1 rfl (.tmp 23) (.tmp 22) rfl HX7.out 0 rfl 6 rfl (by simp) (.slice D1 v q1) rfl (by kernel_rfl) rfl ?_;intro x8 hz _;have HX8:Hid (OW w [boxO g1 [.slice A1 n c1,.int .i64 e.fam,.slice B1 m d1,.int .i64 e.ts,.int .i64 e.seq,.int .i64 e.kind,.slice D1 v q1],boxO g2 [.slice none 0 0,.int .i64 0,.slice none 0 0,.int .i64 0,.int .i64 0,.int .i64 0,.slice none 0 0],bytO 5 (A1,c1,e.row),bytO 5 (B1,d1,e.qual),bytO 5 (D1,q1,e.val)] x8):=Lib.hid hz;clear hz HX7))
 go_wp2_with (first
  | (refine wpList_load_row7 rfl 60 (.tmp 1) rfl rfl (HX8.out.range (i:=0) rfl) ent_row5 ?_)
  | (refine wl_put rfl (.tmp 2) (.tmp 24) rfl HX8.out 1 rfl rfl [.slice A1 n c1,.int .i64 e.fam,.slice B1 m d1,.int .i64 e.ts,.int .i64 e.seq,.int .i64 e.kind,.slice D1 v q1] rfl rfl (by kernel_rfl) (by simp [Value.oneCell']) ?_;intro x9 hz _;have HX9:=Lib.hid hz;clear hz))
 refine bodyPost_ret (results_rowL rfl _ _ g2 [.slice A1 n c1,.int .i64 e.fam,.slice B1 m d1,.int .i64 e.ts,.int .i64 e.seq,.int .i64 e.kind,.slice D1 v q1] rfl (HX9.out.range (i:=1) rfl) (by kernel_rfl) (by kernel_rfl)) rfl ?_
 refine ⟨⟨A1,c1,B1,d1,D1,q1,e⟩,rfl,?_,(HX9.out.erase 0).erase 0⟩
 show Ending.returned _ = .returned (entV A1 e.row.length c1 B1 e.qual.length d1 D1 e.val.length q1 e)
 rw [HLR.out,HLQ.out,HLV.out]
theorem open_yes7 {b:List UInt8} {r:RunR} (ho:openR7 b=(some r,0)) {A:Option Addr} {n c:Nat} {w:World} (hs:Sl w A n c b) (ht:TabAt 0 w) :
  Calls Tryz.prog 17 #[.slice A n c] w fun e z=>∃ q:RunRec,q.r=r∧RunF q∧e = .returned (.tuple #[.pointer (some ⟨q.g,0,none⟩),.int .i64 0])∧OW w q.obs z :=
 (open_any7 b A n c w hs ht).mono fun e z h=>by
  rcases h with ⟨q,h1,h2,h3,h4,h5⟩ | ⟨k,_,h1,_⟩
  ·have h6:=h1
   rw [ho] at h1
   injection h1 with h1 _
   injection h1 with h1
   exact ⟨q,h1.symm,.of h3 h6,h4,h5⟩
  ·rw [ho] at h1;cases h1
set_option maxRecDepth 1000000 in
set_option maxHeartbeats 4000000 in
theorem made_yes (o:OptR) (L:List Ent) (A:Option Addr) (n c:Nat) (w:World) (hes:Ens w A n L) (hn:n≤100000) (hr:refuseR o L=0) (hl:(runBy o L).length≤16777216) (ht:TabAt 0 w) :
  Calls Tryz.prog 27 #[optV o,.slice A n c] w fun e z=>∃ (q:RunRec) (B:Option Addr) (m d:Nat),q.r=runW o L∧RunF q∧(runBy o L).length=m∧e = .returned (.tuple #[.slice B m d,.pointer (some ⟨q.g,0,none⟩)])∧OW w (bytO 5 (B,d,runBy o L)::q.obs) z:=by
 have hL:=hes.len
 obtain ⟨h1,h2⟩:=write_open hr (by omega) hl
 have HW:Hid ((writeR o L).1=runBy o L∧(writeR o L).2=0):=Lib.hid ⟨by rw [h1],by rw [h1]⟩
 have HO:=Lib.hid h2
 have HES:Hid (∀ z,Below w.heap.size w z→Ens z A n L):=Lib.hid fun z hz=>hes.later hz
 have HTB:Hid (∀ z,Below w.heap.size w z→TabAt 0 z):=Lib.hid fun z hz=>ht.later hz
 obtain ⟨m,hm⟩:∃ m,m=(runBy o L).length:=⟨_,rfl⟩
 have HM:=Lib.hid hm.symm
 obtain ⟨ob,oi,ox,olw,oc⟩:=o
 unfold optV
 dsimp only
 have HX:=Lib.hid (OW.nil w)
 clear hes hr hl ht hL h1 h2 hm
 go_enter Tryz.func27,Tryz.ntmps27
 go_upto_region 2 with (first
  | (refine wl_box rfl (.tmp 0) rfl [.int .i64 ob,.int .i64 oi,.int .i64 ox,.int .i64 olw,.int .i64 oc] rfl HX.out ?_;intro g1 x1 hz _;have HX1:Hid (OW w [boxO g1 [.int .i64 ob,.int .i64 oi,.int .i64 ox,.int .i64 olw,.int .i64 oc]] x1):=Lib.hid hz;clear hz HX)
  | (refine wl_rowR rfl 23 (.tmp 2) rfl rfl (HX1.out.range (i:=0) rfl) opts_row ?_)
  | (go_at_call 57;go_must (refine (write_any ⟨ob,oi,ox,olw,oc⟩ L A n c _ (HES.out _ HX1.out.up) hn (HTB.out _ HX1.out.up)).mono ?_);rw [HW.out.1,HW.out.2];rintro e x2 hp;obtain ⟨B,d,rfl,hs2,ho,hb⟩:=hp.at_ HM.out rfl;have HX2:=Lib.hid (HX1.out.app (OW.byt1 hb ho));have HS2:=Lib.hid hs2;clear hp ho hb hs2 HX1))
 go_upto_region 4 with (go_at_call 20;go_must (refine (num7_any 0 _).mono ?_);rintro e x3 ⟨rfl,rfl⟩)
 go_upto_region 5 with (go_at_call 17;go_must (refine (open_yes7 HO.out HS2.out (HTB.out _ HX2.out.up)).mono ?_);rintro e x4 ⟨q,hq1,hq2,rfl,hz⟩;have HX4:=Lib.hid (HX2.out.app hz);have HQ:=Lib.hid (And.intro hq1 hq2);clear hq1 hq2 hz HX2)
 go_wp2_with (go_at_call 20;go_must (refine (num7_any 0 _).mono ?_);rintro e x5 ⟨rfl,rfl⟩)
 go_ret2
 exact ⟨q,B,m,d,HQ.out.1,HQ.out.2,HM.out,rfl,HX4.out.erase 0⟩
end Go.Proofs.YtfdbcfaeiglbeaaGreatDoor
