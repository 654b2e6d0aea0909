/-
 RunL5.
-/
import Derived.Test.YtfdbcfaeiglbeaaGreatDoorRZ34
import Derived.Test.YtfdbcfaeiglbeaaGreatDoorRZ35
import Derived.Test.YtfdbcfaeiglbeaaGreatDoorRZ36
namespace Go.Proofs.YtfdbcfaeiglbeaaGreatDoor
open Go.RowKit
theorem few_perm (r a:Ob) (F N:List Ob):(((r::F) ++ N) ++ [a]).Perm ((r::(F ++ N)) ++ [a]):=by (refine perm_of_cnt fun a=>?_;(simp only [cntO_app,cntO_cons,cntO_nil]) <;> omega)
set_option maxRecDepth 1000000 in
set_option maxHeartbeats 8000000 in
theorem few_any (L:List Ent) (A:Option Addr) (m c:Nat) (w:World) (hes:Ens w A m L) (hel:∀ e,e ∈ L→e.row.length≤140737488355000∧e.qual.length≤140737488355000∧e.val.length≤140737488355000) :
  Calls Tryz.prog 15 #[.slice A m c] w fun e z=>∃ (LA:Option Addr) (lc:Nat) (rs:List ER),e = .returned (.slice LA rs.length lc)∧rs.map ER.e=L.take 120∧OW w (entsO LA rs.length lc rs) z:=by
 have HEL:=Lib.hid hel
 have HLE:=Lib.hid hes.len
 have HES:Hid (∀ z,Below w.heap.size w z→Ens z A m L):=Lib.hid fun z hz=>hes.later hz
 have HX0:Hid (OW w (rowO 60 7 (.slice none 0 0) 0 []::[]) w):=Lib.hid ((OW.nil w).nilRow 60 7)
 clear hes hel
 go_enter Tryz.func15,Tryz.ntmps15
 go_wp2_with fail
 go_loopw [3,4] (fun lv iv wr=>∃ (n:Nat) (LA:Option Addr) (lc:Nat) (rs:List ER),n≤m∧n≤120∧iv = .int .i64 n∧lv = .slice LA n lc∧Hid (rs.length=n)∧Hid (rs.map ER.e=L.take n)∧Hid (OW w (rowO 60 7 (.slice LA n lc) n (rs.flatMap ER.cells)::rs.flatMap rowE) wr)) (fun _ iv _=>120 - (intOf iv).toNat)
 case atStart=>exact ⟨0,none,0,[],Nat.zero_le _,by omega,rfl,rfl,Lib.hid rfl,Lib.hid rfl,HX0⟩
 case round =>
  clear HX0
  obtain ⟨n,LA,lc,rs,hnm,hn120,rfl,rfl,HRL,HRS,HX⟩:=hrel
  by_cases hgo:n < m∧n < 120
  case neg =>
   have HTK:Hid (L.take n=L.take 120):=Lib.hid (by
    rcases Nat.lt_or_ge n m with h | h
    ·rw [show n=120 from by omega]
    ·rw [take_all (by have:=HLE.out;omega),take_all (by have:=HLE.out;omega)])
   by_cases hlt:n < m
   ·have hd:decide ((n:Int) < (m:Int))=true:=decide_eq_true (by omega)
    have hd2:decide ((n:Int) < 120)=false:=decide_eq_false (by omega)
    have hd3:¬ n < 120:=by omega
    clear hgo
    go_wp2_with fail
    go_ret
    exact ⟨LA,lc,rs,by rw [HRL.out];rfl,by rw [HRS.out,HTK.out],by rw [HRL.out];exact HX.out⟩
   ·have hd:decide ((n:Int) < (m:Int))=false:=decide_eq_false (by omega)
    clear hgo
    go_wp2_with fail
    go_ret
    exact ⟨LA,lc,rs,by rw [HRL.out];rfl,by rw [HRS.out,HTK.out],by rw [HRL.out];exact HX.out⟩
  obtain ⟨hlt,hlt120⟩:=hgo
  have hd:decide ((n:Int) < (m:Int))=true:=decide_eq_true (by omega)
  have hd2:decide ((n:Int) < 120)=true:=decide_eq_true (by omega)
  obtain ⟨b,oo,Ar,ec,B,d,D,q,e,rfl,hbl2,hek,hrg,hen⟩:=(HES.out w (Below.refl _ _)).at_ hlt
  have HRG:Hid (∀ z,Below w.heap.size w z→z.rangeAt b (oo + n * 7) [.slice Ar e.row.length ec,.int .i64 e.fam,.slice B e.qual.length d,.int .i64 e.ts,.int .i64 e.seq,.int .i64 e.kind,.slice D e.val.length q]):=Lib.hid fun z hz j v hj=>(hz.cell (p:=⟨b,_,none⟩) hbl2).trans (hrg j v hj)
  have HEN:Hid (∀ z,Below w.heap.size w z→En z Ar e.row.length ec B e.qual.length d D e.val.length q e):=Lib.hid fun z hz=>hen.later hz
  have HTK:Hid (L.take (n + 1)=L.take n ++ [e]):=Lib.hid (take_snoc hek)
  have HLN:=Lib.hid (HEL.out e (List.mem_of_getElem? hek))
  have i1:(0:Int)≤(n:Int):=by omega
  have i2:(n:Int) < (m:Int):=by omega
  clear hek hrg hen
  go_wp2_with (first
   | (refine wpList_load_at rfl 60 (.tmp 18) rfl rfl (HRG.out _ HX.out.up) ent_row5 ?_)
   | (go_at_call 62;go_must (refine (copied7_any e Ar _ ec B _ d D _ q _ (HEN.out _ HX.out.up) HLN.out).mono ?_);rintro r y1 ⟨s,hse,rfl,hz⟩;have HX4:=Lib.hid (HX.out.app hz);have HSE:=Lib.hid hse;clear hz hse HX)
   | (refine wl_build rfl #[(0,.tmp 20)] rfl #[.slice s.A s.e.row.length s.c,.int .i64 s.e.fam,.slice s.B s.e.qual.length s.d,.int .i64 s.e.ts,.int .i64 s.e.seq,.int .i64 s.e.kind,.slice s.D s.e.val.length s.q] Tryz.entsS (.agg #[.slice none 0 0,.int .i64 0,.slice none 0 0,.int .i64 0,.int .i64 0,.int .i64 0,.slice none 0 0]) (by kernel_rfl) (by decide) (by decide) (by decide) rfl (by first | rfl | kernel_rfl) HX4.out ?_;intro g5 x5 hz _;have HX5:Hid (OW w (((rowO 60 7 (.slice LA n lc) n (rs.flatMap ER.cells)::rs.flatMap rowE) ++ rowE s) ++ [rowO 60 7 (.slice (some ⟨g5,0,none⟩) 1 1) 1 [.slice s.A s.e.row.length s.c,.int .i64 s.e.fam,.slice s.B s.e.qual.length s.d,.int .i64 s.e.ts,.int .i64 s.e.seq,.int .i64 s.e.kind,.slice s.D s.e.val.length s.q]]) x5):=Lib.hid hz;clear hz HX4)
   | (at_builtin;go_must (refine wl_append rfl (.tmp 15) (.tmp 21) rfl Tryz.entsS HX5.out 0 rfl rfl _ (some ⟨g5,0,none⟩) 1 1 [.slice s.A s.e.row.length s.c,.int .i64 s.e.fam,.slice s.B s.e.qual.length s.d,.int .i64 s.e.ts,.int .i64 s.e.seq,.int .i64 s.e.kind,.slice s.D s.e.val.length s.q] rfl (Reads.own (HX5.out.rowm (List.mem_append_right _ (List.mem_singleton.2 rfl)))) (by simp [Value.oneCell']) (by unfold maxLen;omega) (by omega) ?_);intro A6 c6 x6 hz _;have HX6:Hid (OW w (((rowO 60 7 (.slice A6 (n + 1) c6) (n + 1) (rs.flatMap ER.cells ++ [.slice s.A s.e.row.length s.c,.int .i64 s.e.fam,.slice s.B s.e.qual.length s.d,.int .i64 s.e.ts,.int .i64 s.e.seq,.int .i64 s.e.kind,.slice s.D s.e.val.length s.q])::rs.flatMap rowE) ++ rowE s) ++ [rowO 60 7 (.slice (some ⟨g5,0,none⟩) 1 1) 1 [.slice s.A s.e.row.length s.c,.int .i64 s.e.fam,.slice s.B s.e.qual.length s.d,.int .i64 s.e.ts,.int .i64 s.e.seq,.int .i64 s.e.kind,.slice s.D s.e.val.length s.q]]) x6):=Lib.hid hz;clear hz HX5))
  have HX7:Hid (OW w (rowO 60 7 (.slice A6 (n + 1) c6) (n + 1) ((rs ++ [s]).flatMap ER.cells)::(rs ++ [s]).flatMap rowE) x6):=Lib.hid (by
   rw [cellE_snoc,rowE_snoc]
   exact OW.left (OW.perm HX6.out (few_perm _ _ _ _)))
  clear HX6
  go_roundw
  case rel=>exact ⟨n + 1,A6,c6,rs ++ [s],by omega,by omega,by go_num,rfl,Lib.hid (by rw [List.length_append,HRL.out];rfl),Lib.hid (by rw [List.map_append,HRS.out,HTK.out,← HSE.out];rfl),HX7⟩
  case measure=>simp [intOf];omega
theorem first_chk:checkE firstE=0:=by decide +kernel
theorem plain_ok:optOk plainO=true:=by decide +kernel
theorem one_ord:OrdOk 9 [firstE]:=⟨List.Pairwise.cons (fun _ h=>by cases h) List.Pairwise.nil,fun e h=>by cases List.mem_singleton.1 h;exact first_chk,fun e h=>by cases List.mem_singleton.1 h;decide⟩
theorem one_ref:refuseR plainO [firstE]=0:=refuse_of plain_ok (by simp) one_ord
theorem one_len:(runBy plainO [firstE]).length≤16777216:=run_small one_ref (by decide)
theorem one_may:mayR (runW plainO [firstE]) [97]=true∧mayR (runW plainO [firstE]) [98]=false :=
 ⟨may_yes one_ref (by decide) (e:=firstE) (List.mem_singleton.2 rfl),may_no one_ref (a:=firstE) (b:=firstE) rfl rfl (.inr (by decide))⟩
theorem one_all:allR (runW plainO [firstE])=([firstE],true):=(written_tells one_ref (by decide)).1
theorem ens_one {z:World} {base:World} {g:Nat} {A B D:Option Addr} (h:OW base [rowO 60 7 (.slice (some ⟨g,0,none⟩) 1 1) 1 [.slice A 1 1,.int .i64 0,.slice B 1 1,.int .i64 7,.int .i64 33,.int .i64 1,.slice D 1 1]] z) (he:En z A 1 1 B 1 1 D 1 1 firstE):Ens z (some ⟨g,0,none⟩) 1 [firstE] :=
 h.ens (rs:=[⟨A,1,B,1,D,1,firstE⟩]) (i:=0) rfl fun r hr=>by cases List.mem_singleton.1 hr;exact he
set_option maxRecDepth 1000000 in
set_option maxHeartbeats 8000000 in
theorem started_any (w:World) (ht:TabAt 0 w):Calls Tryz.prog 24 #[] w fun e z=>e = .returned (.bool true)∧Below w.heap.size w z:=by
 have HTB:Hid (∀ z,Below w.heap.size w z→TabAt 0 z):=Lib.hid fun z hz=>ht.later hz
 have HW:Hid ((writeR plainO [firstE]).1=runBy plainO [firstE]∧(writeR plainO [firstE]).2=0∧openR7 (runBy plainO [firstE])=(some (runW plainO [firstE]),0)):=Lib.hid (by
  obtain ⟨h1,h2⟩:=write_open one_ref (by decide) one_len
  exact ⟨by rw [h1],by rw [h1],h2⟩)
 obtain ⟨b,hb⟩:∃ b,b=runBy plainO [firstE]:=⟨_,rfl⟩
 obtain ⟨r0,hr0⟩:∃ r,r=runW plainO [firstE]:=⟨_,rfl⟩
 obtain ⟨bl,hbl⟩:∃ n,n=b.length:=⟨_,rfl⟩
 rw [← hb,← hr0] at HW
 have HBL:=Lib.hid hbl.symm
 have HM:Hid (mayR r0 [97]=true∧mayR r0 [98]=false):=Lib.hid (by rw [hr0];exact one_may)
 have HA:Hid (allR r0=([firstE],true)):=Lib.hid (by rw [hr0];exact one_all)
 have HCN:Hid (r0.count=1):=Lib.hid (by rw [hr0];rfl)
 have kc:=conv_const
 have kf:=meta_count
 have HX:=Lib.hid (OW.nil w)
 have tok1:True:=trivial
 clear ht hb hr0 hbl
 go_enter Tryz.func24,Tryz.ntmps24
 go_upto_region 2 with (first
  | (go_at_call 84;go_must (refine (plain_any _).mono ?_);rintro e x1 ⟨rfl,hb⟩;have HB1:=Lib.hid hb;clear hb)
  | (go_at_call 39;go_must (refine (first_any _).mono ?_);rintro e x2 ⟨FA,FB,FD,rfl,hen,hb⟩;have HB2:Hid (Below w.heap.size w x2):=Lib.hid (HB1.out.trans (hb.mono HB1.out.size));have HFE:Hid (∀ z,Below x2.heap.size x2 z→En z FA 1 1 FB 1 1 FD 1 1 firstE):=Lib.hid fun z hz=>hen.later hz;have HN2:=Lib.hid (OW.nil x2);clear hen hb HB1)
  | (refine wl_build rfl #[(0,.tmp 8)] rfl #[.slice FA 1 1,.int .i64 0,.slice FB 1 1,.int .i64 7,.int .i64 33,.int .i64 1,.slice FD 1 1] Tryz.entsS (.agg #[.slice none 0 0,.int .i64 0,.slice none 0 0,.int .i64 0,.int .i64 0,.int .i64 0,.slice none 0 0]) (by kernel_rfl) (by decide) (by decide) (by decide) rfl (by first | rfl | kernel_rfl) HN2.out ?_;intro g9 x3 hz _;have HX3:Hid (OW x2 [rowO 60 7 (.slice (some ⟨g9,0,none⟩) 1 1) 1 [.slice FA 1 1,.int .i64 0,.slice FB 1 1,.int .i64 7,.int .i64 33,.int .i64 1,.slice FD 1 1]] x3):=Lib.hid hz;clear hz HN2)
  | (go_at_call 57;go_must (refine (write_any plainO [firstE] (some ⟨g9,0,none⟩) 1 1 _ (ens_one HX3.out (HFE.out _ HX3.out.up)) (by decide) (HTB.out _ (OW.base HB2.out HX3.out).up)).mono ?_);rw [HW.out.1,HW.out.2.1];rintro e x4 hp;obtain ⟨B,d,rfl,hs4,ho,hb⟩:=hp.at_ HBL.out rfl;have HX4:Hid (OW w [bytO 5 (B,d,b)] x4):=Lib.hid (OW.base (OW.base HB2.out HX3.out).up (OW.byt1 hb ho));have HS4:=Lib.hid hs4;clear hp ho hb hs4 HX3))
 go_upto_region 4 with (go_at_call 20;go_must (refine (num7_any 0 _).mono ?_);rintro e x5 ⟨rfl,rfl⟩)
 go_upto_region 5 with (go_at_call 17;go_must (refine (open_yes7 HW.out.2.2 HS4.out (HTB.out _ HX4.out.up)).mono ?_);rintro e x6 ⟨q,hq1,hq2,rfl,hz⟩;have HX6:=Lib.hid (OW.base HX4.out.up hz);have HQ:=Lib.hid (And.intro hq1 hq2);have HRA:Hid (∀ z,Below x6.heap.size x6 z→RunAt q z):=Lib.hid fun z hb=>(RunAt.of hq2.ok hz (List.Sublist.refl _)).later hb;clear hq1 hq2 hz HX4)
 have HK:Hid (q.f1.p.a.length≤100000000∧q.fn.p.b.length≤100000000):=Lib.hid (by
  have h1:=(pcin_len (HQ.out.2.pin HQ.out.2.ok.first)).1
  have h2:=(pcin_len (HQ.out.2.pin HQ.out.2.ok.last)).2
  omega)
 have HCQ:Hid ((q.r.count:Int)=1):=Lib.hid (by rw [HQ.out.1,HCN.out];rfl)
 obtain ⟨kct,hkct⟩:∃ k:Int,k=(q.r.count:Int):=⟨_,rfl⟩
 have m1:(kct != 1)=false:=by rw [hkct,HCQ.out];rfl
 have HKC:=Lib.hid hkct.symm
 have HB60:=Lib.hid (Below.refl x6.heap.size x6)
 clear hkct
 go_upto_region 7 with (first
  | (go_at_call 20;go_must (refine (num7_any 0 _).mono ?_);rintro e x7 ⟨rfl,rfl⟩)
  | (go_at_call 28;go_must (refine (meta_any q _ (HRA.out _ HB60.out) HK.out).mono ?_);rintro e x8 ⟨MA,mc,MB,md,rfl,hz⟩;rw [HKC.out];have HB8:=Lib.hid (HB60.out.trans hz.up);clear hz HB60)
  | (go_at_call 37;have _t:=tok1;clear tok1;go_must (refine (may_any q _ (HRA.out _ (HB8.out.alloc HB8.out.size _)) HQ.out.2 [97] _ 1 1 (Sl.lit x8 #[.int .u8 97] [97] 5 _ rfl rfl (by decide))).mono ?_);rw [HQ.out.1,HM.out.1];rintro e x9 ⟨rfl,hb⟩;have HB9:=Lib.hid ((HB8.out.alloc HB8.out.size _).trans (hb.mono (HB8.out.alloc HB8.out.size _).size));clear hb HB8)
  | (go_at_call 37;go_must (refine (may_any q _ (HRA.out _ (HB9.out.alloc HB9.out.size _)) HQ.out.2 [98] _ 1 1 (Sl.lit x9 #[.int .u8 98] [98] 5 _ rfl rfl (by decide))).mono ?_);rw [HQ.out.1,HM.out.2];rintro e x10 ⟨rfl,hb⟩;have HB10:=Lib.hid ((HB9.out.alloc HB9.out.size _).trans (hb.mono (HB9.out.alloc HB9.out.size _).size));clear hb HB9))
 obtain ⟨ek,hek⟩:∃ k:Int,k=endK true:=⟨_,rfl⟩
 have m2:(ek == 0)=true:=by rw [hek];rfl
 have HEK:=Lib.hid hek.symm
 clear hek
 go_upto_region 8 with (go_at_call 31;go_must (refine (all_goes q HQ.out.2 w _ q.obs (List.Sublist.refl _) (HX6.out.later HB10.out) (HTB.out _ (Below.refl _ _)) [firstE] true (by rw [HQ.out.1];exact HA.out) (by rw [HQ.out.1,HCN.out];decide) (by decide)).mono ?_);intro e x11 hp;obtain ⟨cg,c',LA,lc,rs,j1,j2,j3,j4,rfl,hz⟩:=hp;rw [HEK.out];have HZ:Hid (OW w (entsO LA rs.length lc rs ++ (c'.obs q ++ q.obs)) x11):=Lib.hid hz;have HRS:=Lib.hid j4;clear hz j1 j2 j3 j4)
 have HEL:Hid (∀ z,Below x11.heap.size x11 z→Ens z LA rs.length [firstE]):=Lib.hid fun z hz=>by
  have h:=rowE_ens HZ.out
  rw [HRS.out] at h
  exact h.later hz
 have HUP:=Lib.hid HZ.out.up
 have HRN:Hid (rs.length≤1000000000):=Lib.hid (by rw [← List.length_map (f:=ER.e),HRS.out];decide)
 go_wp2_with (first
  | (go_at_call 39;go_must (refine (first_any _).mono ?_);rintro e x12 ⟨GA,GB,GD,rfl,hen,hb⟩;have HB12:=Lib.hid hb;have HGE:Hid (∀ z,Below x12.heap.size x12 z→En z GA 1 1 GB 1 1 GD 1 1 firstE):=Lib.hid fun z hz=>hen.later hz;have HN12:=Lib.hid (OW.nil x12);clear hen hb)
  | (refine wl_build rfl #[(0,.tmp 56)] rfl #[.slice GA 1 1,.int .i64 0,.slice GB 1 1,.int .i64 7,.int .i64 33,.int .i64 1,.slice GD 1 1] Tryz.entsS (.agg #[.slice none 0 0,.int .i64 0,.slice none 0 0,.int .i64 0,.int .i64 0,.int .i64 0,.slice none 0 0]) (by kernel_rfl) (by decide) (by decide) (by decide) rfl (by first | rfl | kernel_rfl) HN12.out ?_;intro g13 x13 hz _;have HX13:Hid (OW x12 [rowO 60 7 (.slice (some ⟨g13,0,none⟩) 1 1) 1 [.slice GA 1 1,.int .i64 0,.slice GB 1 1,.int .i64 7,.int .i64 33,.int .i64 1,.slice GD 1 1]] x13):=Lib.hid hz;clear hz HN12)
  | (go_at_call 32;go_must (refine (sameAll_any [firstE] [firstE] LA rs.length lc (some ⟨g13,0,none⟩) 1 1 _ (HEL.out _ (OW.base HB12.out HX13.out).up) (ens_one HX13.out (HGE.out _ HX13.out.up)) HRN.out).mono ?_);rintro e x14 ⟨bo,rfl,hbo,hb⟩;obtain rfl:=hbo.2 rfl;have HX14:=Lib.hid ((OW.base HB12.out HX13.out).up.trans (hb.mono (OW.base HB12.out HX13.out).up.size));clear hb hbo))
 go_ret
 exact ⟨rfl,HUP.out.trans (HX14.out.mono HUP.out.size)⟩
end Go.Proofs.YtfdbcfaeiglbeaaGreatDoor
