/-
 RunL4.
-/
import Derived.Test.YtfdbcfaeiglbeaaGreatDoorRZ15
import Derived.Test.YtfdbcfaeiglbeaaGreatDoorRZ33
namespace Go.Proofs.YtfdbcfaeiglbeaaGreatDoor
open Go.RowKit
structure SrtN (w:World) (rs:List ER) (L:List Ent):Prop where
  ents:rs.map ER.e=L
  en:∀ r,r ∈ rs→r.En w
theorem SrtN.len {w:World} {rs:List ER} {L:List Ent} (h:SrtN w rs L):rs.length=L.length:=by rw [← h.ents,List.length_map]
theorem SrtN.at_ {w:World} {rs:List ER} {L:List Ent} (h:SrtN w rs L) {j:Nat} {r:ER} (hr:rs[j]?=some r):L[j]?=some r.e:=by rw [← h.ents,List.getElem?_map,hr];rfl
theorem SrtN.later {w x:World} {rs:List ER} {L:List Ent} (h:SrtN w rs L) (hb:Below w.heap.size w x):SrtN x rs L:=⟨h.ents,fun r hr=>(h.en r hr).later hb⟩
theorem ord_cap {w x:World} {T:TypeId} {os:List Ob} {A:Option Addr} {k c:Nat} {cs:List Value} (h:OW w (rowO T 7 (.slice A k c) k cs::os) x):k≤c:=by
  obtain ⟨_,_,hv,h1,_⟩:=own_slice (h.row (i:=0) rfl)
  injection hv with _ _ h2;omega
theorem OW.base {w y z:World} {os:List Ob} (hb:Below w.heap.size w y) (h:OW y os z):OW w os z:=by
 have h0:OW w [] y:=⟨hb,fun _ h=>(by cases h),List.Pairwise.nil⟩
 exact h0.app h
set_option maxRecDepth 1000000 in
set_option maxHeartbeats 8000000 in
theorem ordered7_any (index:Int) (hix:0≤index∧index≤1099511627776) (es:List Ent) (A:Option Addr) (n c:Nat) (w:World) (hes:Ens w A n es) (hel:∀ e,e ∈ es→e.row.length≤140737488355000∧e.qual.length≤140737488355000∧e.val.length≤140737488355000) :
  Calls Tryz.prog 38 #[.slice A n c,.int .i64 index] w fun e z=>∃ (MA:Option Addr) (mc k:Nat),e = .returned (.slice MA k mc)∧(k≤120∧k≤mc)∧Ens z MA k (ordL index (es.take 120))∧Below w.heap.size w z:=by
 obtain ⟨hix1,hix2⟩:=hix
 have HEL:=Lib.hid hel
 have HLE:=Lib.hid hes.len
 have HES:Hid (∀ z,Below w.heap.size w z→Ens z A n es):=Lib.hid fun z hz=>hes.later hz
 have HX0:Hid (OW w [rowO 60 7 (.slice none 0 0) 0 []] w):=Lib.hid ((OW.nil w).nilRow 60 7)
 have w1:IntKind.i64.wrap (16 * index)=16 * index:=i64_sum (by omega) (by omega)
 have w2:IntKind.i64.wrap (16 * index + 15)=16 * index + 15:=i64_sum (by omega) (by omega)
 clear hes hel hix1 hix2
 go_enter Tryz.func38,Tryz.ntmps38
 go_wp2_with fail
 go_loopw [5,6] (fun mv iv wr=>∃ (i k:Nat) (MA:Option Addr) (mc:Nat) (rs:List ER),i≤n∧i≤120∧k≤i∧iv = .int .i64 i∧mv = .slice MA k mc∧Hid (rs.length=k)∧Hid (SrtN wr rs (ordL index (es.take i)))∧Hid (OW w [rowO 60 7 (.slice MA k mc) k (rs.flatMap ER.cells)] wr)) (fun _ iv _=>120 - (intOf iv).toNat)
 case atStart=>exact ⟨0,0,none,0,[],Nat.zero_le _,by omega,Nat.le_refl _,rfl,rfl,Lib.hid rfl,Lib.hid ⟨rfl,fun r h=>by cases h⟩,HX0⟩
 case round =>
  clear HX0
  obtain ⟨i,k,MA,mc,rs,hin,hi120,hki,rfl,rfl,HRL,HSR,HX⟩:=hrel
  by_cases hgo:i < n∧i < 120
  case neg =>
   have HTK:Hid (es.take i=es.take 120):=Lib.hid (by
    rcases Nat.lt_or_ge i n with h | h
    ·rw [show i=120 from by omega]
    ·rw [take_all (by have:=HLE.out;omega),take_all (by have:=HLE.out;omega)])
   have hk120:k≤120:=by omega
   by_cases hlt:i < n
   ·have hd:decide ((i:Int) < (n:Int))=true:=decide_eq_true (by omega)
    have hd2:decide ((i:Int) < 120)=false:=decide_eq_false (by omega)
    have hd3:¬ i < 120:=by omega
    clear hgo
    go_wp2_with fail
    go_ret
    exact ⟨MA,mc,k,rfl,⟨hk120,ord_cap HX.out⟩,by rw [← HTK.out,← HSR.out.ents];exact HX.out.ens (i:=0) rfl HSR.out.en,HX.out.up⟩
   ·have hd:decide ((i:Int) < (n:Int))=false:=decide_eq_false (by omega)
    clear hgo
    go_wp2_with fail
    go_ret
    exact ⟨MA,mc,k,rfl,⟨hk120,ord_cap HX.out⟩,by rw [← HTK.out,← HSR.out.ents];exact HX.out.ens (i:=0) rfl HSR.out.en,HX.out.up⟩
  obtain ⟨hlt,hlt120⟩:=hgo
  have hd:decide ((i:Int) < (n:Int))=true:=decide_eq_true (by omega)
  have hd2:decide ((i:Int) < 120)=true:=decide_eq_true (by omega)
  obtain ⟨b,oo,Ar,ec,B,d,D,q,e,rfl,hbl2,hek,hrg,hen⟩:=(HES.out w (Below.refl _ _)).at_ hlt
  have HRG:Hid (∀ z,Below w.heap.size w z→z.rangeAt b (oo + i * 7) [.slice Ar e.row.length ec,.int .i64 e.fam,.slice B e.qual.length d,.int .i64 e.ts,.int .i64 e.seq,.int .i64 e.kind,.slice D e.val.length q]):=Lib.hid fun z hz j v hj=>(hz.cell (p:=⟨b,_,none⟩) hbl2).trans (hrg j v hj)
  have HEN:Hid (∀ z,Below w.heap.size w z→En z Ar e.row.length ec B e.qual.length d D e.val.length q e):=Lib.hid fun z hz=>hen.later hz
  have HTK:Hid (ordL index (es.take (i + 1))=ordStep index (ordL index (es.take i)) e):=Lib.hid (by rw [take_snoc hek,ordL_snoc])
  have HLN:=Lib.hid (HEL.out e (List.mem_of_getElem? hek))
  obtain ⟨m,hm⟩:∃ z,z=ordL index (es.take i):=⟨_,rfl⟩
  rw [← hm] at HSR HTK
  have i1:(0:Int)≤(i:Int):=by omega
  have i2:(i:Int) < (n:Int):=by omega
  clear hek hrg hen hm
  obtain ⟨wp,rfl⟩:∃ z:World,z=wr:=⟨_,rfl⟩
  go_upto_region 6 with (first
   | (refine wpList_load_at rfl 60 (.tmp 22) rfl rfl (HRG.out _ HX.out.up) ent_row5 ?_)
   | (go_at_call 62;go_must (refine (copied7_any e Ar _ ec B _ d D _ q _ (HEN.out _ HX.out.up) HLN.out).mono ?_);rintro r y1 ⟨s,hse,rfl,hz⟩;have HRW:Hid (∀ z,Below y1.heap.size y1 z→OW w [rowO 60 7 (.slice MA k mc) k (rs.flatMap ER.cells)] z):=Lib.hid fun z hb=>(HX.out.later hz.up).later hb;have HSE:=Lib.hid hse;have HSN:Hid (∀ z,Below y1.heap.size y1 z→s.En z):=Lib.hid fun z hb=>ER.En.later ⟨hz.sl (i:=0) rfl rfl,hz.sl (i:=1) rfl rfl,hz.sl (i:=2) rfl rfl⟩ hb;have HSR1:Hid (∀ z,Below y1.heap.size y1 z→SrtN z rs m):=Lib.hid fun z hb=>(HSR.out.later hz.up).later hb;have HX1:=Lib.hid (OW.nil y1);clear hz hse HX HSR)
   | (refine wl_alloc rfl rfl [.slice none 0 0,.int .i64 0,.slice none 0 0,.int .i64 0,.int .i64 0,.int .i64 0,.slice none 0 0] (.inl (by kernel_rfl)) HX1.out ?_;intro g7 y2 hz _;have HX2:Hid (OW y1 [boxO g7 [.slice none 0 0,.int .i64 0,.slice none 0 0,.int .i64 0,.int .i64 0,.int .i64 0,.slice none 0 0]] y2):=Lib.hid hz;clear hz HX1)
   | (refine wl_put rfl (.tmp 7) (.tmp 24) rfl HX2.out 0 rfl rfl [.slice s.A s.e.row.length s.c,.int .i64 s.e.fam,.slice s.B s.e.qual.length s.d,.int .i64 s.e.ts,.int .i64 s.e.seq,.int .i64 s.e.kind,.slice s.D s.e.val.length s.q] rfl rfl (by kernel_rfl) (by simp [Value.oneCell']) ?_;intro y3 hz _;have HX:Hid (OW y1 [boxO g7 [.slice s.A s.e.row.length s.c,.int .i64 s.e.fam,.slice s.B s.e.qual.length s.d,.int .i64 s.e.ts,.int .i64 s.e.seq,.int .i64 s.e.kind,.slice s.D s.e.val.length s.q]] y3):=Lib.hid hz;clear hz HX2))
  have HML:Hid (m.length=k):=Lib.hid (by rw [← (HSR1.out _ (Below.refl _ _)).len];exact HRL.out)
  obtain ⟨ce,hce⟩:∃ z,z=checkE s.e:=⟨_,rfl⟩
  have HCE:=Lib.hid hce.symm
  rw [← HSE.out] at HTK
  clear hce hd hd2
  by_cases hc:ce=0
  case neg =>
   have hd3:(ce != 0)=true:=bne_iff_ne.2 hc
   have HST:Hid (ordStep index m s.e=m):=Lib.hid (by unfold ordStep;rw [if_pos (.inl (by rw [HCE.out];exact hc))])
   clear hc
   go_wp2_with (first
    | (refine wpList_load_row7 rfl 60 (.tmp 7) rfl rfl (HX.out.range (i:=0) rfl) ent_row5 ?_)
    | (go_at_call 96;go_must (refine (rCheckE_any s.e s.A _ s.c s.B _ s.d s.D _ s.q _ (HSN.out _ HX.out.up)).mono ?_);rw [HCE.out];rintro r y4 ⟨rfl,hb⟩;have HX1:=Lib.hid (HX.out.later hb);clear hb HX))
   go_roundw
   case rel=>exact ⟨i + 1,k,MA,mc,rs,by omega,by omega,by omega,by go_num,rfl,HRL,Lib.hid (by rw [HTK.out,HST.out];exact HSR1.out _ HX1.out.up),Lib.hid (HRW.out _ HX1.out.up)⟩
   case measure=>simp [intOf];omega
  have hd3:(ce != 0)=false:=by rw [hc];rfl
  have c4:=HX.out.cell (i:=0) (j:=4) rfl rfl
  by_cases hsq:16 * index + 15 < s.e.seq
  case pos =>
   have hd4:decide (s.e.seq > 16 * index + 15)=true:=decide_eq_true hsq
   have hd5:decide (16 * index + 15 < s.e.seq)=true:=decide_eq_true hsq
   have HST:Hid (ordStep index m s.e=m):=Lib.hid (by unfold ordStep;rw [if_pos (.inr hsq)])
   clear hc c4
   go_wp2_with (first
    | (refine wpList_load_row7 rfl 60 (.tmp 7) rfl rfl (HX.out.range (i:=0) rfl) ent_row5 ?_)
    | (go_at_call 96;go_must (refine (rCheckE_any s.e s.A _ s.c s.B _ s.d s.D _ s.q _ (HSN.out _ HX.out.up)).mono ?_);rw [HCE.out];rintro r y4 ⟨rfl,hb⟩;have HX1:=Lib.hid (HX.out.later hb);clear hb HX)
    | (refine wpList_load_cell rfl 3 (.tmp 29) rfl rfl (HX1.out.cell (i:=0) (j:=4) rfl rfl) Tryz.isAgg3 ?_))
   go_roundw
   case rel=>exact ⟨i + 1,k,MA,mc,rs,by omega,by omega,by omega,by go_num,rfl,HRL,Lib.hid (by rw [HTK.out,HST.out];exact HSR1.out _ HX1.out.up),Lib.hid (HRW.out _ HX1.out.up)⟩
   case measure=>simp [intOf];omega
  have hd4:decide (s.e.seq > 16 * index + 15)=false:=decide_eq_false hsq
  have hd5:decide (16 * index + 15 < s.e.seq)=false:=decide_eq_false hsq
  have HST:Hid (ordStep index m s.e=insE m s.e):=Lib.hid (by
   unfold ordStep
   rw [if_neg]
   rintro (h | h)
   ·exact h (by rw [HCE.out];exact hc)
   ·exact hsq h)
  obtain ⟨N,hN⟩:∃ z,z=insN m s.e:=⟨_,rfl⟩
  have hNk:N≤k:=by rw [hN,← HML.out];exact twN_le _ _
  have HN:=Lib.hid hN
  clear hc hN c4
  go_upto_region 8 with (first
    | (refine wpList_load_row7 rfl 60 (.tmp 7) rfl rfl (HX.out.range (i:=0) rfl) ent_row5 ?_)
    | (go_at_call 96;go_must (refine (rCheckE_any s.e s.A _ s.c s.B _ s.d s.D _ s.q _ (HSN.out _ HX.out.up)).mono ?_);rw [HCE.out];rintro r y4 ⟨rfl,hb⟩;have HX1:Hid (OW y1 [boxO g7 [.slice s.A s.e.row.length s.c,.int .i64 s.e.fam,.slice s.B s.e.qual.length s.d,.int .i64 s.e.ts,.int .i64 s.e.seq,.int .i64 s.e.kind,.slice s.D s.e.val.length s.q]] y4):=Lib.hid (HX.out.later hb);clear hb HX)
    | (refine wpList_load_cell rfl 3 (.tmp 29) rfl rfl (HX1.out.cell (i:=0) (j:=4) rfl rfl) Tryz.isAgg3 ?_))
  clear hd3 hd4 hd5 hsq
  have hk120:k≤120:=by omega
  go_loopw [8] (fun av wr=>∃ a:Nat,a≤N∧av = .int .i64 a∧Hid (OW y1 [boxO g7 [.slice s.A s.e.row.length s.c,.int .i64 s.e.fam,.slice s.B s.e.qual.length s.d,.int .i64 s.e.ts,.int .i64 s.e.seq,.int .i64 s.e.kind,.slice s.D s.e.val.length s.q]] wr)) (fun av _=>120 - (intOf av).toNat)
  case atStart=>exact ⟨0,Nat.zero_le _,rfl,HX1⟩
  case round =>
   clear HX1
   obtain ⟨a,haN,rfl,HX⟩:=hrel
   by_cases hak:a < k
   case pos =>
    have hda:decide ((a:Int) < (k:Int))=true:=decide_eq_true (by omega)
    have hda2:a < k:=hak
    obtain ⟨mg,mcap,hv,_⟩:=own_form ((HRW.out _ HX.out.up).row (i:=0) rfl) (show 0 < k by omega)
    injection hv with hv _ hcp
    subst hv
    subst hcp
    obtain ⟨r,hr⟩:∃ r,rs[a]?=some r:=⟨_,List.getElem?_eq_getElem (by have:=HRL.out;omega)⟩
    have HR:=Lib.hid hr
    have HRE:Hid (∀ z,Below y1.heap.size y1 z→r.En z):=Lib.hid fun z hz=>(HSR1.out z hz).en r (List.mem_of_getElem? hr)
    have HMA:Hid (m[a]?=some r.e):=Lib.hid ((HSR1.out _ (Below.refl _ _)).at_ hr)
    obtain ⟨cv,hcv⟩:∃ z,z=cmpE r.e s.e:=⟨_,rfl⟩
    have HCV:=Lib.hid hcv.symm
    have HIF:Hid (cv < 0↔a < N):=Lib.hid (by
     have h:=tw_iff (p:=fun x=>decide (cmpE x s.e < 0)) HMA.out (by have:=HN.out;unfold insN at this;omega)
     rw [hcv,HN.out]
     simpa [insN] using h)
    have j1:(0:Int)≤(a:Int):=by omega
    have j2:(a:Int) < (k:Int):=by omega
    clear hr hcv
    by_cases haN2:a < N
    case pos =>
     have hcv0:cv < 0:=HIF.out.2 haN2
     have hdc:decide (cv < 0)=true:=decide_eq_true hcv0
     go_wp2_with fail
     refine lt_start [] (by kernel_rfl) ?_
     intro xd hd
     refine ⟨fun z=>OW y1 [boxO g7 [.slice s.A s.e.row.length s.c,.int .i64 s.e.fam,.slice s.B s.e.qual.length s.d,.int .i64 s.e.ts,.int .i64 s.e.seq,.int .i64 s.e.kind,.slice s.D s.e.val.length s.q]] z,?_⟩
     have HS:=Lib.hid (HX.out.later hd)
     refine lp2 0 rfl (fun _=>HS.out) ?_
     simp only [Act.put,ls]
     refine lp2 1 rfl (fun _=>HS.out) ?_
     simp only [Act.put,ls]
     refine lp2 2 rfl (fun _=>HS.out) ?_
     simp only [Act.put,ls]
     refine lp2 3 rfl (fun _=>HS.out) ?_
     simp only [Act.put,ls]
     refine lp2 4 rfl (fun _=>HS.out) ?_
     simp only [Act.put,ls]
     refine lp2 5 rfl (fun _=>HS.out) ?_
     simp only [Act.put,ls]
     refine lp2 6 rfl (fun _=>HS.out) ?_
     simp only [Act.put,ls]
     refine lp2 7 rfl (fun _=>HS.out) ?_
     simp only [Act.put,ls]
     refine lq 8 [10,11,12] rfl (yi_rowO rfl rfl rfl (fun w hS=>OW.rowRange (HRW.out _ (OW.up hS)) (i:=0) rfl HR.out) ent_row5) HS.out ?_
     simp only [Act.put,ls]
     refine lq 9 [10,11,12] rfl (yi_rowO rfl rfl rfl (fun w hS=>OW.range hS (i:=0) rfl) ent_row5) HS.out ?_
     simp only [Act.put,ls]
     refine lt_call 10 rfl (by kernel_rfl) rfl rfl ⟨_,Tryz.func40,by decide,by kernel_rfl⟩ [entV r.A r.e.row.length r.c r.B r.e.qual.length r.d r.D r.e.val.length r.q r.e,entV s.A s.e.row.length s.c s.B s.e.qual.length s.d s.D s.e.val.length s.q s.e] rfl ?_
     refine (rcompare_any r.e s.e r.A _ r.c r.B _ r.d r.D _ r.q s.A _ s.c s.B _ s.d s.D _ s.q _ (HRE.out _ HS.out.up) (HSN.out _ HS.out.up)).mono ?_
     rw [HCV.out]
     rintro rr z9 ⟨rfl,hb⟩
     replace HS:=Lib.hid (HS.out.later hb)
     clear hb
     refine ⟨_,rfl,fun _=>HS.out,?_⟩
     simp only [Act.put,ls]
     refine lp2 11 rfl (fun _=>HS.out) ?_
     simp only [Act.put,ls]
     refine lp2 12 rfl (fun _=>HS.out) ?_
     simp only [Act.put,ls]
     refine lt_done (by kernel_rfl) ?_
     have HS9:=HS
     clear HS
     have HX2:=Lib.hid HS9.out
     clear HS9 HX
     go_wp2_with fail
     go_roundw
     case rel=>exact ⟨a + 1,by omega,by go_num,HX2⟩
     case measure=>simp [intOf];omega
    have hcv0:¬ cv < 0:=fun h=>haN2 (HIF.out.1 h)
    have hdc:decide (cv < 0)=false:=decide_eq_false hcv0
    have HAN:Hid (a=N):=Lib.hid (by omega)
    go_wp2_with fail
    refine lt_start [] (by kernel_rfl) ?_
    intro xd hd
    refine ⟨fun z=>OW y1 [boxO g7 [.slice s.A s.e.row.length s.c,.int .i64 s.e.fam,.slice s.B s.e.qual.length s.d,.int .i64 s.e.ts,.int .i64 s.e.seq,.int .i64 s.e.kind,.slice s.D s.e.val.length s.q]] z,?_⟩
    have HS:=Lib.hid (HX.out.later hd)
    refine lp2 0 rfl (fun _=>HS.out) ?_
    simp only [Act.put,ls]
    refine lp2 1 rfl (fun _=>HS.out) ?_
    simp only [Act.put,ls]
    refine lp2 2 rfl (fun _=>HS.out) ?_
    simp only [Act.put,ls]
    refine lp2 3 rfl (fun _=>HS.out) ?_
    simp only [Act.put,ls]
    refine lp2 4 rfl (fun _=>HS.out) ?_
    simp only [Act.put,ls]
    refine lp2 5 rfl (fun _=>HS.out) ?_
    simp only [Act.put,ls]
    refine lp2 6 rfl (fun _=>HS.out) ?_
    simp only [Act.put,ls]
    refine lp2 7 rfl (fun _=>HS.out) ?_
    simp only [Act.put,ls]
    refine lq 8 [10,11,12] rfl (yi_rowO rfl rfl rfl (fun w hS=>OW.rowRange (HRW.out _ (OW.up hS)) (i:=0) rfl HR.out) ent_row5) HS.out ?_
    simp only [Act.put,ls]
    refine lq 9 [10,11,12] rfl (yi_rowO rfl rfl rfl (fun w hS=>OW.range hS (i:=0) rfl) ent_row5) HS.out ?_
    simp only [Act.put,ls]
    refine lt_call 10 rfl (by kernel_rfl) rfl rfl ⟨_,Tryz.func40,by decide,by kernel_rfl⟩ [entV r.A r.e.row.length r.c r.B r.e.qual.length r.d r.D r.e.val.length r.q r.e,entV s.A s.e.row.length s.c s.B s.e.qual.length s.d s.D s.e.val.length s.q s.e] rfl ?_
    refine (rcompare_any r.e s.e r.A _ r.c r.B _ r.d r.D _ r.q s.A _ s.c s.B _ s.d s.D _ s.q _ (HRE.out _ HS.out.up) (HSN.out _ HS.out.up)).mono ?_
    rw [HCV.out]
    rintro rr z9 ⟨rfl,hb⟩
    replace HS:=Lib.hid (HS.out.later hb)
    clear hb
    refine ⟨_,rfl,fun _=>HS.out,?_⟩
    simp only [Act.put,ls]
    refine lp2 11 rfl (fun _=>HS.out) ?_
    simp only [Act.put,ls]
    refine lp2 12 rfl (fun _=>HS.out) ?_
    simp only [Act.put,ls]
    refine lt_done (by kernel_rfl) ?_
    have HS9:=HS
    clear HS
    have HX2:=Lib.hid HS9.out
    clear HS9 HX
    go_wp2_with fail
    by_cases hc0:cv=0
    case pos =>
     have hde:(cv == 0)=true:=by rw [hc0];rfl
     have HIN:Hid (insE m s.e=m):=Lib.hid (by
      unfold insE
      rw [if_pos]
      unfold hitB
      rw [← HN.out,← HAN.out,HMA.out]
      show (cmpE r.e s.e == 0)=true
      rw [HCV.out];exact hde)
     clear hc0 hcv0
     refine lt_start [] (by kernel_rfl) ?_
     intro xd hd
     refine ⟨fun z=>OW y1 [boxO g7 [.slice s.A s.e.row.length s.c,.int .i64 s.e.fam,.slice s.B s.e.qual.length s.d,.int .i64 s.e.ts,.int .i64 s.e.seq,.int .i64 s.e.kind,.slice s.D s.e.val.length s.q]] z,?_⟩
     have HS:=Lib.hid (HX2.out.later hd)
     refine lp2 0 rfl (fun _=>HS.out) ?_
     simp only [Act.put,ls]
     refine lp2 1 rfl (fun _=>HS.out) ?_
     simp only [Act.put,ls]
     refine lp2 2 rfl (fun _=>HS.out) ?_
     simp only [Act.put,ls]
     refine lp2 3 rfl (fun _=>HS.out) ?_
     simp only [Act.put,ls]
     refine lp2 4 rfl (fun _=>HS.out) ?_
     simp only [Act.put,ls]
     refine lp2 5 rfl (fun _=>HS.out) ?_
     simp only [Act.put,ls]
     refine lp2 6 rfl (fun _=>HS.out) ?_
     simp only [Act.put,ls]
     refine lp2 7 rfl (fun _=>HS.out) ?_
     simp only [Act.put,ls]
     refine lq 8 [10,11,12] rfl (yi_rowO rfl rfl rfl (fun w hS=>OW.rowRange (HRW.out _ (OW.up hS)) (i:=0) rfl HR.out) ent_row5) HS.out ?_
     simp only [Act.put,ls]
     refine lq 9 [10,11,12] rfl (yi_rowO rfl rfl rfl (fun w hS=>OW.range hS (i:=0) rfl) ent_row5) HS.out ?_
     simp only [Act.put,ls]
     refine lt_call 10 rfl (by kernel_rfl) rfl rfl ⟨_,Tryz.func40,by decide,by kernel_rfl⟩ [entV r.A r.e.row.length r.c r.B r.e.qual.length r.d r.D r.e.val.length r.q r.e,entV s.A s.e.row.length s.c s.B s.e.qual.length s.d s.D s.e.val.length s.q s.e] rfl ?_
     refine (rcompare_any r.e s.e r.A _ r.c r.B _ r.d r.D _ r.q s.A _ s.c s.B _ s.d s.D _ s.q _ (HRE.out _ HS.out.up) (HSN.out _ HS.out.up)).mono ?_
     rw [HCV.out]
     rintro rr z9 ⟨rfl,hb⟩
     replace HS:=Lib.hid (HS.out.later hb)
     clear hb
     refine ⟨_,rfl,fun _=>HS.out,?_⟩
     simp only [Act.put,ls]
     refine lp2 11 rfl (fun _=>HS.out) ?_
     simp only [Act.put,ls]
     refine lp2 12 rfl (fun _=>HS.out) ?_
     simp only [Act.put,ls]
     refine lt_done (by kernel_rfl) ?_
     have HS9:=HS
     clear HS
     have HX3:=Lib.hid HS9.out
     clear HS9 HX2
     go_wp2_with fail
     go_roundw
     case rel=>exact ⟨i + 1,k,some ⟨mg,0,none⟩,mc,rs,by omega,by omega,by omega,by go_num,rfl,HRL,Lib.hid (by rw [HTK.out,HST.out,HIN.out];exact HSR1.out _ HX3.out.up),Lib.hid (HRW.out _ HX3.out.up)⟩
     case measure=>simp [intOf];omega
    have hde:(cv == 0)=false:=beq_eq_false_iff_ne.2 hc0
    have HIN:Hid (insE m s.e=m.take N ++ s.e::m.drop N):=Lib.hid (by
     unfold insE
     rw [if_neg,← HN.out]
     intro h
     unfold hitB at h
     rw [← HN.out,← HAN.out,HMA.out] at h
     have h:(cmpE r.e s.e == 0)=true:=h
     rw [HCV.out,hde] at h;cases h)
    clear hc0 hcv0
    refine lt_start [] (by kernel_rfl) ?_
    intro xd hd
    refine ⟨fun z=>OW y1 [boxO g7 [.slice s.A s.e.row.length s.c,.int .i64 s.e.fam,.slice s.B s.e.qual.length s.d,.int .i64 s.e.ts,.int .i64 s.e.seq,.int .i64 s.e.kind,.slice s.D s.e.val.length s.q]] z,?_⟩
    have HS:=Lib.hid (HX2.out.later hd)
    refine lp2 0 rfl (fun _=>HS.out) ?_
    simp only [Act.put,ls]
    refine lp2 1 rfl (fun _=>HS.out) ?_
    simp only [Act.put,ls]
    refine lp2 2 rfl (fun _=>HS.out) ?_
    simp only [Act.put,ls]
    refine lp2 3 rfl (fun _=>HS.out) ?_
    simp only [Act.put,ls]
    refine lp2 4 rfl (fun _=>HS.out) ?_
    simp only [Act.put,ls]
    refine lp2 5 rfl (fun _=>HS.out) ?_
    simp only [Act.put,ls]
    refine lp2 6 rfl (fun _=>HS.out) ?_
    simp only [Act.put,ls]
    refine lp2 7 rfl (fun _=>HS.out) ?_
    simp only [Act.put,ls]
    refine lq 8 [10,11,12] rfl (yi_rowO rfl rfl rfl (fun w hS=>OW.rowRange (HRW.out _ (OW.up hS)) (i:=0) rfl HR.out) ent_row5) HS.out ?_
    simp only [Act.put,ls]
    refine lq 9 [10,11,12] rfl (yi_rowO rfl rfl rfl (fun w hS=>OW.range hS (i:=0) rfl) ent_row5) HS.out ?_
    simp only [Act.put,ls]
    refine lt_call 10 rfl (by kernel_rfl) rfl rfl ⟨_,Tryz.func40,by decide,by kernel_rfl⟩ [entV r.A r.e.row.length r.c r.B r.e.qual.length r.d r.D r.e.val.length r.q r.e,entV s.A s.e.row.length s.c s.B s.e.qual.length s.d s.D s.e.val.length s.q s.e] rfl ?_
    refine (rcompare_any r.e s.e r.A _ r.c r.B _ r.d r.D _ r.q s.A _ s.c s.B _ s.d s.D _ s.q _ (HRE.out _ HS.out.up) (HSN.out _ HS.out.up)).mono ?_
    rw [HCV.out]
    rintro rr z9 ⟨rfl,hb⟩
    replace HS:=Lib.hid (HS.out.later hb)
    clear hb
    refine ⟨_,rfl,fun _=>HS.out,?_⟩
    simp only [Act.put,ls]
    refine lp2 11 rfl (fun _=>HS.out) ?_
    simp only [Act.put,ls]
    refine lp2 12 rfl (fun _=>HS.out) ?_
    simp only [Act.put,ls]
    refine lt_done (by kernel_rfl) ?_
    have HS9:=HS
    clear HS
    have HX3:=Lib.hid HS9.out
    clear HS9 HX2
    have HIA:Hid (insE m s.e=m.take a ++ s.e::m.drop a):=Lib.hid (by rw [HIN.out,HAN.out])
    have hkmc:k≤mc:=by
     rcases ((HRW.out _ HX3.out.up).row (i:=0) rfl).2 with ⟨h1,h2⟩ | ⟨g,cap,_,h1,_,_,h2,_⟩
     ·injection h1 with h1;cases h1
     ·injection h1 with _ _ h4;omega
    have k6:mc ≠ a:=by omega
    have k7:¬ a=mc:=by omega
    have HN0:=Lib.hid (HX3.out.nilRow 60 7)
    have tk1:True:=trivial
    have tk2:True:=trivial
    go_wp2_with (first
     | (at_builtin;have _t:=tk1;go_must (refine wl_append rfl (.tmp 64) (.tmp 67) rfl Tryz.entsS HN0.out 1 rfl rfl _ (some ⟨mg,0,none⟩) a mc ((rs.flatMap ER.cells).take (a * 7)) rfl ((Reads.own ((HRW.out _ HN0.out.up).row (i:=0) rfl)).take (by omega)) (fun u hu=>cells_one (List.mem_of_mem_take hu)) (by unfold maxLen;omega) (by omega) ?_);intro A1 c1 z1 hz _;rw [Nat.zero_add] at hz;rw [Nat.zero_add];have HX4:Hid (OW y1 [boxO g7 [.slice s.A s.e.row.length s.c,.int .i64 s.e.fam,.slice s.B s.e.qual.length s.d,.int .i64 s.e.ts,.int .i64 s.e.seq,.int .i64 s.e.kind,.slice s.D s.e.val.length s.q],rowO 60 7 (.slice A1 a c1) a ((rs.take a).flatMap ER.cells)] z1):=Lib.hid (by rw [← flat7_take];exact hz);clear hz HN0 HX3 tk1)
     | (refine wpList_load_row7 rfl 60 (.tmp 7) rfl rfl (HX4.out.range (i:=0) rfl) ent_row5 ?_)
     | (refine wl_build rfl #[(0,.tmp 70)] rfl #[.slice s.A s.e.row.length s.c,.int .i64 s.e.fam,.slice s.B s.e.qual.length s.d,.int .i64 s.e.ts,.int .i64 s.e.seq,.int .i64 s.e.kind,.slice s.D s.e.val.length s.q] Tryz.entsS (.agg #[.slice none 0 0,.int .i64 0,.slice none 0 0,.int .i64 0,.int .i64 0,.int .i64 0,.slice none 0 0]) (by kernel_rfl) (by decide) (by decide) (by decide) rfl (by first | rfl | kernel_rfl) HX4.out ?_;intro g5 z5 hz _;have HX5:=Lib.hid hz;clear hz HX4)
     | (at_builtin;have _t:=tk2;go_must (refine wl_append rfl (.tmp 69) (.tmp 71) rfl Tryz.entsS HX5.out 1 rfl rfl _ (some ⟨g5,0,none⟩) 1 1 [.slice s.A s.e.row.length s.c,.int .i64 s.e.fam,.slice s.B s.e.qual.length s.d,.int .i64 s.e.ts,.int .i64 s.e.seq,.int .i64 s.e.kind,.slice s.D s.e.val.length s.q] rfl (Reads.own (HX5.out.row (i:=2) rfl)) (by simp [Value.oneCell']) (by unfold maxLen;omega) (by omega) ?_);intro A6 c6 z6 hz _;have HX6:=Lib.hid (hz.erase 2);clear hz HX5 tk2)
     | (at_builtin;go_must (refine wl_append rfl (.tmp 73) (.tmp 76) rfl Tryz.entsS HX6.out 1 rfl rfl _ (some ⟨mg,a * 7,none⟩) (k - a) (mc - a) ((rs.flatMap ER.cells).drop (a * 7)) rfl (reads_drop0 (Reads.own ((HRW.out _ HX6.out.up).row (i:=0) rfl)) (by omega)) (fun u hu=>cells_one (List.mem_of_mem_drop hu)) (by unfold maxLen;omega) (by omega) ?_);intro A7 c7 z7 hz _;have HX7:=Lib.hid (hz.erase 0);clear hz HX6))
    go_roundw
    case rel =>
     have e1:(rs.take a ++ s::rs.drop a).flatMap ER.cells=(rs.take a).flatMap ER.cells ++ [.slice s.A s.e.row.length s.c,.int .i64 s.e.fam,.slice s.B s.e.qual.length s.d,.int .i64 s.e.ts,.int .i64 s.e.seq,.int .i64 s.e.kind,.slice s.D s.e.val.length s.q] ++ ((rs.flatMap ER.cells).drop (a * 7)):=by
      rw [List.flatMap_append,List.flatMap_cons,List.append_assoc]
      rw [flat7_drop];rfl
     refine ⟨i + 1,a + 1 + (k - a),A7,c7,rs.take a ++ s::rs.drop a,by omega,by omega,by omega,by go_num,rfl,Lib.hid (by rw [List.length_append,List.length_cons,List.length_take,List.length_drop];have:=HRL.out;omega),Lib.hid ⟨?_,fun r hr=>?_⟩,Lib.hid (by rw [e1];exact OW.base (HRW.out _ (Below.refl _ _)).up HX7.out)⟩
     ·rw [HTK.out,HST.out,HIA.out,List.map_append,List.map_cons,List.map_take,List.map_drop,(HSR1.out _ (Below.refl _ _)).ents]
     ·rcases List.mem_append.1 hr with h1 | h1
      ·exact (HSR1.out _ HX7.out.up).en r (List.mem_of_mem_take h1)
      ·rcases List.mem_cons.1 h1 with rfl | h1
       ·exact HSN.out _ HX7.out.up
       ·exact (HSR1.out _ HX7.out.up).en r (List.mem_of_mem_drop h1)
    case measure=>simp [intOf];omega
   have hak2:a=k:=by omega
   have HAN:Hid (a=N):=Lib.hid (by omega)
   have HIN:Hid (insE m s.e=m.take a ++ s.e::m.drop a):=Lib.hid (by
    have h9:m[N]?=none:=List.getElem?_eq_none (by have:=HML.out;have:=HAN.out;omega)
    unfold insE
    rw [if_neg,← HN.out,HAN.out]
    intro h
    unfold hitB at h
    rw [← HN.out,h9] at h
    cases h)
   subst hak2
   have hda:decide ((a:Int) < (a:Int))=false:=decide_eq_false (by omega)
   have hda2:¬ a < a:=by omega
   have HIA:=HIN
   by_cases hmc:mc=a
   ·subst hmc
    go_wp2_with fail
    refine lt_start [] (by kernel_rfl) ?_
    intro xd hd
    refine ⟨fun z=>OW y1 [boxO g7 [.slice s.A s.e.row.length s.c,.int .i64 s.e.fam,.slice s.B s.e.qual.length s.d,.int .i64 s.e.ts,.int .i64 s.e.seq,.int .i64 s.e.kind,.slice s.D s.e.val.length s.q]] z,?_⟩
    have HS:=Lib.hid (HX.out.later hd)
    refine lp2 0 rfl (fun _=>HS.out) ?_
    simp only [Act.put,ls]
    refine lp2 1 rfl (fun _=>HS.out) ?_
    simp only [Act.put,ls]
    refine lp2 2 rfl (fun _=>HS.out) ?_
    simp only [Act.put,ls]
    refine lp2 3 rfl (fun _=>HS.out) ?_
    simp only [Act.put,ls]
    refine lp2 4 rfl (fun _=>HS.out) ?_
    simp only [Act.put,ls]
    refine lk 5 rfl (fun _=>HS.out) ?_
    simp only [Act.put,ls]
    refine lk 6 rfl (fun _=>HS.out) ?_
    simp only [Act.put,ls]
    refine lk 7 rfl (fun _=>HS.out) ?_
    simp only [Act.put,ls]
    refine lk 8 rfl (fun _=>HS.out) ?_
    simp only [Act.put,ls]
    refine lk 9 rfl (fun _=>HS.out) ?_
    simp only [Act.put,ls]
    refine lk 10 rfl (fun _=>HS.out) ?_
    simp only [Act.put,ls]
    refine lk 11 rfl (fun _=>HS.out) ?_
    simp only [Act.put,ls]
    refine lp2 12 rfl (fun _=>HS.out) ?_
    simp only [Act.put,ls]
    refine lt_done (by kernel_rfl) ?_
    have HS9:=HS
    clear HS
    have HX2:=Lib.hid HS9.out
    clear HS9 HX
    go_wp2_with fail
    refine lt_start [] (by kernel_rfl) ?_
    intro xd hd
    refine ⟨fun z=>OW y1 [boxO g7 [.slice s.A s.e.row.length s.c,.int .i64 s.e.fam,.slice s.B s.e.qual.length s.d,.int .i64 s.e.ts,.int .i64 s.e.seq,.int .i64 s.e.kind,.slice s.D s.e.val.length s.q]] z,?_⟩
    have HS:=Lib.hid (HX2.out.later hd)
    refine lp2 0 rfl (fun _=>HS.out) ?_
    simp only [Act.put,ls]
    refine lp2 1 rfl (fun _=>HS.out) ?_
    simp only [Act.put,ls]
    refine lp2 2 rfl (fun _=>HS.out) ?_
    simp only [Act.put,ls]
    refine lp2 3 rfl (fun _=>HS.out) ?_
    simp only [Act.put,ls]
    refine lp2 4 rfl (fun _=>HS.out) ?_
    simp only [Act.put,ls]
    refine lk 5 rfl (fun _=>HS.out) ?_
    simp only [Act.put,ls]
    refine lk 6 rfl (fun _=>HS.out) ?_
    simp only [Act.put,ls]
    refine lk 7 rfl (fun _=>HS.out) ?_
    simp only [Act.put,ls]
    refine lk 8 rfl (fun _=>HS.out) ?_
    simp only [Act.put,ls]
    refine lk 9 rfl (fun _=>HS.out) ?_
    simp only [Act.put,ls]
    refine lk 10 rfl (fun _=>HS.out) ?_
    simp only [Act.put,ls]
    refine lk 11 rfl (fun _=>HS.out) ?_
    simp only [Act.put,ls]
    refine lp2 12 rfl (fun _=>HS.out) ?_
    simp only [Act.put,ls]
    refine lt_done (by kernel_rfl) ?_
    have HS9:=HS
    clear HS
    have HX3:=Lib.hid HS9.out
    clear HS9 HX2
    have HN0:=Lib.hid (HX3.out.nilRow 60 7)
    have tk1:True:=trivial
    have tk2:True:=trivial
    go_wp2_with (first
     | (at_builtin;have _t:=tk1;go_must (refine wl_append rfl (.tmp 64) (.tmp 67) rfl Tryz.entsS HN0.out 1 rfl rfl _ (MA) mc mc ((rs.flatMap ER.cells).take (mc * 7)) rfl ((Reads.own ((HRW.out _ HN0.out.up).row (i:=0) rfl)).take (by omega)) (fun u hu=>cells_one (List.mem_of_mem_take hu)) (by unfold maxLen;omega) (by omega) ?_);intro A1 c1 z1 hz _;rw [Nat.zero_add] at hz;rw [Nat.zero_add];have HX4:Hid (OW y1 [boxO g7 [.slice s.A s.e.row.length s.c,.int .i64 s.e.fam,.slice s.B s.e.qual.length s.d,.int .i64 s.e.ts,.int .i64 s.e.seq,.int .i64 s.e.kind,.slice s.D s.e.val.length s.q],rowO 60 7 (.slice A1 mc c1) mc ((rs.take mc).flatMap ER.cells)] z1):=Lib.hid (by rw [← flat7_take];exact hz);clear hz HN0 HX3 tk1)
     | (refine wpList_load_row7 rfl 60 (.tmp 7) rfl rfl (HX4.out.range (i:=0) rfl) ent_row5 ?_)
     | (refine wl_build rfl #[(0,.tmp 70)] rfl #[.slice s.A s.e.row.length s.c,.int .i64 s.e.fam,.slice s.B s.e.qual.length s.d,.int .i64 s.e.ts,.int .i64 s.e.seq,.int .i64 s.e.kind,.slice s.D s.e.val.length s.q] Tryz.entsS (.agg #[.slice none 0 0,.int .i64 0,.slice none 0 0,.int .i64 0,.int .i64 0,.int .i64 0,.slice none 0 0]) (by kernel_rfl) (by decide) (by decide) (by decide) rfl (by first | rfl | kernel_rfl) HX4.out ?_;intro g5 z5 hz _;have HX5:=Lib.hid hz;clear hz HX4)
     | (at_builtin;have _t:=tk2;go_must (refine wl_append rfl (.tmp 69) (.tmp 71) rfl Tryz.entsS HX5.out 1 rfl rfl _ (some ⟨g5,0,none⟩) 1 1 [.slice s.A s.e.row.length s.c,.int .i64 s.e.fam,.slice s.B s.e.qual.length s.d,.int .i64 s.e.ts,.int .i64 s.e.seq,.int .i64 s.e.kind,.slice s.D s.e.val.length s.q] rfl (Reads.own (HX5.out.row (i:=2) rfl)) (by simp [Value.oneCell']) (by unfold maxLen;omega) (by omega) ?_);intro A6 c6 z6 hz _;have HX6:=Lib.hid (hz.erase 2);clear hz HX5 tk2)
     | (at_builtin;go_must (refine wl_append rfl (.tmp 73) (.tmp 76) rfl Tryz.entsS HX6.out 1 rfl rfl _ (MA) (0) (0) ([]) rfl (Reads.nil (w:=z6) (B:=0) (size:=7)) (by simp) (by unfold maxLen;omega) (by omega) ?_);intro A7 c7 z7 hz _;have HX7:=Lib.hid (hz.erase 0);clear hz HX6))
    go_roundw
    case rel =>
     have e1:(rs.take mc ++ s::rs.drop mc).flatMap ER.cells=(rs.take mc).flatMap ER.cells ++ [.slice s.A s.e.row.length s.c,.int .i64 s.e.fam,.slice s.B s.e.qual.length s.d,.int .i64 s.e.ts,.int .i64 s.e.seq,.int .i64 s.e.kind,.slice s.D s.e.val.length s.q] ++ ([]):=by
      rw [List.flatMap_append,List.flatMap_cons,List.append_assoc]
      rw [List.drop_of_length_le (by have:=HRL.out;omega)];rfl
     refine ⟨i + 1,mc + 1 + (0),A7,c7,rs.take mc ++ s::rs.drop mc,by omega,by omega,by omega,by go_num,rfl,Lib.hid (by rw [List.length_append,List.length_cons,List.length_take,List.length_drop];have:=HRL.out;omega),Lib.hid ⟨?_,fun r hr=>?_⟩,Lib.hid (by rw [e1];exact OW.base (HRW.out _ (Below.refl _ _)).up HX7.out)⟩
     ·rw [HTK.out,HST.out,HIA.out,List.map_append,List.map_cons,List.map_take,List.map_drop,(HSR1.out _ (Below.refl _ _)).ents]
     ·rcases List.mem_append.1 hr with h1 | h1
      ·exact (HSR1.out _ HX7.out.up).en r (List.mem_of_mem_take h1)
      ·rcases List.mem_cons.1 h1 with rfl | h1
       ·exact HSN.out _ HX7.out.up
       ·exact (HSR1.out _ HX7.out.up).en r (List.mem_of_mem_drop h1)
    case measure=>simp [intOf];omega
   ·obtain ⟨mg,rfl,hmc2⟩:∃ mg,MA=some ⟨mg,0,none⟩∧a < mc:=by
     rcases ((HRW.out _ HX.out.up).row (i:=0) rfl).2 with ⟨h1,h2⟩ | ⟨g,cap,_,h1,_,_,h2,_⟩
     ·injection h1 with h1 h3 h4;exact absurd (h4.trans h2.symm) hmc
     ·injection h1 with h1 h3 h4;exact ⟨g,h1,by omega⟩
    go_wp2_with fail
    refine lt_start [] (by kernel_rfl) ?_
    intro xd hd
    refine ⟨fun z=>OW y1 [boxO g7 [.slice s.A s.e.row.length s.c,.int .i64 s.e.fam,.slice s.B s.e.qual.length s.d,.int .i64 s.e.ts,.int .i64 s.e.seq,.int .i64 s.e.kind,.slice s.D s.e.val.length s.q]] z,?_⟩
    have HS:=Lib.hid (HX.out.later hd)
    refine lp2 0 rfl (fun _=>HS.out) ?_
    simp only [Act.put,ls]
    refine lp2 1 rfl (fun _=>HS.out) ?_
    simp only [Act.put,ls]
    refine lp2 2 rfl (fun _=>HS.out) ?_
    simp only [Act.put,ls]
    refine lp2 3 rfl (fun _=>HS.out) ?_
    simp only [Act.put,ls]
    refine lp2 4 rfl (fun _=>HS.out) ?_
    simp only [Act.put,ls]
    refine lk 5 rfl (fun _=>HS.out) ?_
    simp only [Act.put,ls]
    refine lk 6 rfl (fun _=>HS.out) ?_
    simp only [Act.put,ls]
    refine lk 7 rfl (fun _=>HS.out) ?_
    simp only [Act.put,ls]
    refine lk 8 rfl (fun _=>HS.out) ?_
    simp only [Act.put,ls]
    refine lk 9 rfl (fun _=>HS.out) ?_
    simp only [Act.put,ls]
    refine lk 10 rfl (fun _=>HS.out) ?_
    simp only [Act.put,ls]
    refine lk 11 rfl (fun _=>HS.out) ?_
    simp only [Act.put,ls]
    refine lp2 12 rfl (fun _=>HS.out) ?_
    simp only [Act.put,ls]
    refine lt_done (by kernel_rfl) ?_
    have HS9:=HS
    clear HS
    have HX2:=Lib.hid HS9.out
    clear HS9 HX
    go_wp2_with fail
    refine lt_start [] (by kernel_rfl) ?_
    intro xd hd
    refine ⟨fun z=>OW y1 [boxO g7 [.slice s.A s.e.row.length s.c,.int .i64 s.e.fam,.slice s.B s.e.qual.length s.d,.int .i64 s.e.ts,.int .i64 s.e.seq,.int .i64 s.e.kind,.slice s.D s.e.val.length s.q]] z,?_⟩
    have HS:=Lib.hid (HX2.out.later hd)
    refine lp2 0 rfl (fun _=>HS.out) ?_
    simp only [Act.put,ls]
    refine lp2 1 rfl (fun _=>HS.out) ?_
    simp only [Act.put,ls]
    refine lp2 2 rfl (fun _=>HS.out) ?_
    simp only [Act.put,ls]
    refine lp2 3 rfl (fun _=>HS.out) ?_
    simp only [Act.put,ls]
    refine lp2 4 rfl (fun _=>HS.out) ?_
    simp only [Act.put,ls]
    refine lk 5 rfl (fun _=>HS.out) ?_
    simp only [Act.put,ls]
    refine lk 6 rfl (fun _=>HS.out) ?_
    simp only [Act.put,ls]
    refine lk 7 rfl (fun _=>HS.out) ?_
    simp only [Act.put,ls]
    refine lk 8 rfl (fun _=>HS.out) ?_
    simp only [Act.put,ls]
    refine lk 9 rfl (fun _=>HS.out) ?_
    simp only [Act.put,ls]
    refine lk 10 rfl (fun _=>HS.out) ?_
    simp only [Act.put,ls]
    refine lk 11 rfl (fun _=>HS.out) ?_
    simp only [Act.put,ls]
    refine lp2 12 rfl (fun _=>HS.out) ?_
    simp only [Act.put,ls]
    refine lt_done (by kernel_rfl) ?_
    have HS9:=HS
    clear HS
    have HX3:=Lib.hid HS9.out
    clear HS9 HX2
    have k6:mc ≠ a:=by omega
    have k7:¬ a=mc:=by omega
    have HN0:=Lib.hid (HX3.out.nilRow 60 7)
    have tk1:True:=trivial
    have tk2:True:=trivial
    go_wp2_with (first
     | (at_builtin;have _t:=tk1;go_must (refine wl_append rfl (.tmp 64) (.tmp 67) rfl Tryz.entsS HN0.out 1 rfl rfl _ (some ⟨mg,0,none⟩) a mc ((rs.flatMap ER.cells).take (a * 7)) rfl ((Reads.own ((HRW.out _ HN0.out.up).row (i:=0) rfl)).take (by omega)) (fun u hu=>cells_one (List.mem_of_mem_take hu)) (by unfold maxLen;omega) (by omega) ?_);intro A1 c1 z1 hz _;rw [Nat.zero_add] at hz;rw [Nat.zero_add];have HX4:Hid (OW y1 [boxO g7 [.slice s.A s.e.row.length s.c,.int .i64 s.e.fam,.slice s.B s.e.qual.length s.d,.int .i64 s.e.ts,.int .i64 s.e.seq,.int .i64 s.e.kind,.slice s.D s.e.val.length s.q],rowO 60 7 (.slice A1 a c1) a ((rs.take a).flatMap ER.cells)] z1):=Lib.hid (by rw [← flat7_take];exact hz);clear hz HN0 HX3 tk1)
     | (refine wpList_load_row7 rfl 60 (.tmp 7) rfl rfl (HX4.out.range (i:=0) rfl) ent_row5 ?_)
     | (refine wl_build rfl #[(0,.tmp 70)] rfl #[.slice s.A s.e.row.length s.c,.int .i64 s.e.fam,.slice s.B s.e.qual.length s.d,.int .i64 s.e.ts,.int .i64 s.e.seq,.int .i64 s.e.kind,.slice s.D s.e.val.length s.q] Tryz.entsS (.agg #[.slice none 0 0,.int .i64 0,.slice none 0 0,.int .i64 0,.int .i64 0,.int .i64 0,.slice none 0 0]) (by kernel_rfl) (by decide) (by decide) (by decide) rfl (by first | rfl | kernel_rfl) HX4.out ?_;intro g5 z5 hz _;have HX5:=Lib.hid hz;clear hz HX4)
     | (at_builtin;have _t:=tk2;go_must (refine wl_append rfl (.tmp 69) (.tmp 71) rfl Tryz.entsS HX5.out 1 rfl rfl _ (some ⟨g5,0,none⟩) 1 1 [.slice s.A s.e.row.length s.c,.int .i64 s.e.fam,.slice s.B s.e.qual.length s.d,.int .i64 s.e.ts,.int .i64 s.e.seq,.int .i64 s.e.kind,.slice s.D s.e.val.length s.q] rfl (Reads.own (HX5.out.row (i:=2) rfl)) (by simp [Value.oneCell']) (by unfold maxLen;omega) (by omega) ?_);intro A6 c6 z6 hz _;have HX6:=Lib.hid (hz.erase 2);clear hz HX5 tk2)
     | (at_builtin;go_must (refine wl_append rfl (.tmp 73) (.tmp 76) rfl Tryz.entsS HX6.out 1 rfl rfl _ (some ⟨mg,a * 7,none⟩) (0) (mc - a) ([]) rfl (Reads.nil (w:=z6) (B:=0) (size:=7)) (by simp) (by unfold maxLen;omega) (by omega) ?_);intro A7 c7 z7 hz _;have HX7:=Lib.hid (hz.erase 0);clear hz HX6))
    go_roundw
    case rel =>
     have e1:(rs.take a ++ s::rs.drop a).flatMap ER.cells=(rs.take a).flatMap ER.cells ++ [.slice s.A s.e.row.length s.c,.int .i64 s.e.fam,.slice s.B s.e.qual.length s.d,.int .i64 s.e.ts,.int .i64 s.e.seq,.int .i64 s.e.kind,.slice s.D s.e.val.length s.q] ++ ([]):=by
      rw [List.flatMap_append,List.flatMap_cons,List.append_assoc]
      rw [List.drop_of_length_le (by have:=HRL.out;omega)];rfl
     refine ⟨i + 1,a + 1 + (0),A7,c7,rs.take a ++ s::rs.drop a,by omega,by omega,by omega,by go_num,rfl,Lib.hid (by rw [List.length_append,List.length_cons,List.length_take,List.length_drop];have:=HRL.out;omega),Lib.hid ⟨?_,fun r hr=>?_⟩,Lib.hid (by rw [e1];exact OW.base (HRW.out _ (Below.refl _ _)).up HX7.out)⟩
     ·rw [HTK.out,HST.out,HIA.out,List.map_append,List.map_cons,List.map_take,List.map_drop,(HSR1.out _ (Below.refl _ _)).ents]
     ·rcases List.mem_append.1 hr with h1 | h1
      ·exact (HSR1.out _ HX7.out.up).en r (List.mem_of_mem_take h1)
      ·rcases List.mem_cons.1 h1 with rfl | h1
       ·exact HSN.out _ HX7.out.up
       ·exact (HSR1.out _ HX7.out.up).en r (List.mem_of_mem_drop h1)
    case measure=>simp [intOf];omega
end Go.Proofs.YtfdbcfaeiglbeaaGreatDoor
