/-
 RunW1.
-/
import Derived.Test.YtfdbcfaeiglbeaaGreatDoorRZ16
import Derived.Deep.CutBlock
import Derived.Lib.SlBytesConst
namespace Go.Proofs.YtfdbcfaeiglbeaaGreatDoor
open Go.RowKit
theorem wl_rowR {P:Program} {ops:Array Oper} {Q:Exit→Act→World→Prop} {rest:List Oper} {o:Oper} {a:Act} {x:World} (hgd:Region.wanted o (yielded ops a.tmps)=true) (ty:TypeId) (p:Operand) (ho:o.op = .load ty p) {b k:Nat} {cs:List Value} (hx:a.eval p = .pointer (some ⟨b,k,none⟩)) (hr:x.rangeAt b k cs) (ht:RowTy P ty cs.length)
  (hK:wpList P ops Q rest (a.put o.dst (.agg cs.toArray)) x):wpList P ops Q (o::rest) a x:=by
 obtain ⟨⟨d,hu,hd⟩,hi⟩:=ht
 exact BigFrame.wpList_want hgd fun _ h=>wp_load_mid ty p ho b k hx cs d hr hu hd hi (h _ _ hK)
theorem ent_rowR:RowTy Tryz.prog 60 7:=⟨⟨_,Tryz.underlying60,rfl⟩,by kernel_rfl⟩
theorem fr_perm (a:Ob) (X:List Ob):(X ++ [a]).Perm (a::X):=by (refine perm_of_cnt fun a=>?_;(simp only [cntO_app,cntO_cons,cntO_nil]) <;> omega)
theorem Ens.er {w:World} {A:Option Addr} {n:Nat} {L:List Ent} (h:Ens w A n L) {k:Nat} (hk:k < n):∃ (b o:Nat) (r:ER),A=some ⟨b,o,none⟩∧b < w.heap.size∧L[k]?=some r.e∧w.rangeAt b (o + k * 7) [.slice r.A r.e.row.length r.c,.int .i64 r.e.fam,.slice r.B r.e.qual.length r.d,.int .i64 r.e.ts,.int .i64 r.e.seq,.int .i64 r.e.kind,.slice r.D r.e.val.length r.q]∧r.En w:=by
 obtain ⟨b,o,Ar,c,B,d,D,q,e,h1,h2,h3,h4,h5⟩:=h.at_ hk
 exact ⟨b,o,⟨Ar,c,B,d,D,q,e⟩,h1,h2,h3,h4,h5⟩
set_option maxRecDepth 100000 in
theorem rlow_any (v:Nat) (w:World) (hv:v < 4294967296):Calls Tryz.prog 134 #[.int .u32 v] w (BytesPost 5 (lowB v) w):=by
 have hL:Hid (u8s (lowB v)=[.int .u8 ((v:Int) % 256),.int .u8 ((v:Int) / 256 % 256),.int .u8 ((v:Int) / 65536 % 256),.int .u8 ((v:Int) / 16777216)]):=Lib.hid (by
  show [u8v _,u8v _,u8v _,u8v _]=_
  rw [u8v_mod,u8v_mod,u8v_mod,u8v_mod];simp only [Int.natCast_ediv];rw [show ((v:Int) / ((16777216:Nat):Int) % 256)=(v:Int) / 16777216 from by omega];rfl)
 go_enter Tryz.func134,Tryz.ntmps134
 go_wp2_with fail
 go_ret
 refine ⟨_,_,rfl,?_,((Below.refl _ _).alloc (Nat.le_refl _) _)⟩
 show World.ownsRow _ _ _ _ _ _ _
 rw [hL.out]
 exact own_lit w #[.int .u8 ((v:Int) % 256),.int .u8 ((v:Int) / 256 % 256),.int .u8 ((v:Int) / 65536 % 256),.int .u8 ((v:Int) / 16777216)] 5 w.heap.size 4 1 (by simp) (by decide) rfl
set_option maxRecDepth 100000 in
theorem rsealed_any (i l c:Int) (w:World):Calls Tryz.prog 68 #[.int .i64 i,.int .i64 l,.int .i64 c] w fun e z=>e = .returned (.bool (sealI i l c))∧w=z:=by
 go_enter Tryz.func68,Tryz.ntmps68
 by_cases h0:0≤i
 case neg =>
  have a0:decide (0≤i)=false:=decide_eq_false h0
  have b0:decide (i ≥ 0)=false:=decide_eq_false h0
  have hs:sealI i l c=false:=by unfold sealI;simp only [a0,Bool.false_and]
  rw [hs]
  clear hs h0
  go_wp2_with fail
  go_ret
  exact ⟨rfl,rfl⟩
 have a0:decide (0≤i)=true:=decide_eq_true h0
 have b0:decide (i ≥ 0)=true:=decide_eq_true h0
 by_cases h1:i≤1099511627776
 case neg =>
  have a1:decide (i≤1099511627776)=false:=decide_eq_false h1
  have b1:decide (i≤1099511627776)=false:=decide_eq_false h1
  have hs:sealI i l c=false:=by unfold sealI;simp only [a1,Bool.and_false,Bool.false_and]
  rw [hs]
  clear hs h1
  go_wp2_with fail
  go_ret
  exact ⟨rfl,rfl⟩
 have a1:decide (i≤1099511627776)=true:=decide_eq_true h1
 have b1:decide (i≤1099511627776)=true:=decide_eq_true h1
 by_cases h2:1≤c
 case neg =>
  have a2:decide (1≤c)=false:=decide_eq_false h2
  have b2:decide (c ≥ 1)=false:=decide_eq_false h2
  have hs:sealI i l c=false:=by unfold sealI;simp only [a2,Bool.and_false,Bool.false_and]
  rw [hs]
  clear hs h2
  go_wp2_with fail
  go_ret
  exact ⟨rfl,rfl⟩
 have a2:decide (1≤c)=true:=decide_eq_true h2
 have b2:decide (c ≥ 1)=true:=decide_eq_true h2
 by_cases h3:c≤1099511627776
 case neg =>
  have a3:decide (c≤1099511627776)=false:=decide_eq_false h3
  have b3:decide (c≤1099511627776)=false:=decide_eq_false h3
  have hs:sealI i l c=false:=by unfold sealI;simp only [a3,Bool.and_false,Bool.false_and]
  rw [hs]
  clear hs h3
  go_wp2_with fail
  go_ret
  exact ⟨rfl,rfl⟩
 have a3:decide (c≤1099511627776)=true:=decide_eq_true h3
 have b3:decide (c≤1099511627776)=true:=decide_eq_true h3
 by_cases h4:0≤l
 case neg =>
  have a4:decide (0≤l)=false:=decide_eq_false h4
  have b4:decide (l ≥ 0)=false:=decide_eq_false h4
  have hs:sealI i l c=false:=by unfold sealI;simp only [a4,Bool.and_false,Bool.false_and]
  rw [hs]
  clear hs h4
  go_wp2_with fail
  go_ret
  exact ⟨rfl,rfl⟩
 have a4:decide (0≤l)=true:=decide_eq_true h4
 have b4:decide (l ≥ 0)=true:=decide_eq_true h4
 by_cases h5:l < c
 case neg =>
  have a5:decide (l < c)=false:=decide_eq_false h5
  have b5:decide (l < c)=false:=decide_eq_false h5
  have hs:sealI i l c=false:=by unfold sealI;simp only [a5,Bool.and_false]
  rw [hs]
  clear hs h5
  go_wp2_with fail
  go_ret
  exact ⟨rfl,rfl⟩
 have a5:decide (l < c)=true:=decide_eq_true h5
 have b5:decide (l < c)=true:=decide_eq_true h5
 have hs:sealI i l c=true:=by unfold sealI;simp only [a0,a1,a2,a3,a4,a5,Bool.and_true]
 rw [hs]
 clear hs h0 h1 h2 h3 h4 h5
 go_wp2_with fail
 go_ret
 exact ⟨rfl,rfl⟩
set_option maxRecDepth 1000000 in
set_option maxHeartbeats 4000000 in
theorem look_any (o:OptR) (L:List Ent) (A:Option Addr) (n c:Nat) (w:World) (hes:Ens w A n L) (hn:n≤1000000) (ho:0≤o.index∧o.index≤1099511627776) :
  Calls Tryz.prog 106 #[.agg #[.int .i64 o.block,.int .i64 o.bits,.int .i64 o.index,.int .i64 o.low,.int .i64 o.clock],.slice A n c] w fun e z=>e = .returned (.int .i64 (lookE o.index none L))∧Below w.heap.size w z:=by
 have HL:Hid (L.length=n):=Lib.hid hes.len
 have HES:Hid (∀ z,Below w.heap.size w z→Ens z A n L):=Lib.hid fun z hz=>hes.later hz
 have HX:=Lib.hid (OW.nil w)
 obtain ⟨ix,hix⟩:∃ z,z=o.index:=⟨_,rfl⟩
 obtain ⟨K,hK⟩:∃ z,z=lookE ix none L:=⟨_,rfl⟩
 have HK:Hid (lookD ix L 0=K):=Lib.hid (by rw [hK];rfl)
 obtain ⟨ho1,ho2⟩:=ho
 rw [← hix,← hK]
 rw [← hix] at ho1 ho2
 have s1:IntKind.i64.wrap (ix * 16)=ix * 16:=i64_sum (by omega) (by omega)
 have s2:IntKind.i64.wrap (ix * 16 + 15)=ix * 16 + 15:=i64_sum (by omega) (by omega)
 clear hes hix hK
 go_enter Tryz.func106,Tryz.ntmps106
 go_wp2_with (refine wl_box rfl (.tmp 0) rfl [.int .i64 o.block,.int .i64 o.bits,.int .i64 ix,.int .i64 o.low,.int .i64 o.clock] rfl HX.out ?_;intro g2 x1 hz hb;have HX1:Hid (OW w [boxO g2 [.int .i64 o.block,.int .i64 o.bits,.int .i64 ix,.int .i64 o.low,.int .i64 o.clock]] x1):=Lib.hid hz;clear hz hb HX)
 go_loopw [10] (fun av wr=>∃ i:Nat,i≤n∧av = .int .i64 i∧Hid (lookD ix L i=K)∧Hid (OW w [boxO g2 [.int .i64 o.block,.int .i64 o.bits,.int .i64 ix,.int .i64 o.low,.int .i64 o.clock]] wr)) (fun av _=>n - (intOf av).toNat)
 case atStart=>exact ⟨0,Nat.zero_le _,rfl,HK,HX1⟩
 case round =>
  clear HX1 HK
  obtain ⟨i,hin,rfl,HK,HX⟩:=hrel
  by_cases hlt:i < n
  case neg =>
   have hd:decide ((i:Int) < (n:Int))=false:=decide_eq_false (by omega)
   have HK0:Hid (K=0):=Lib.hid (by rw [← HK.out];exact lookD_end _ _ (by rw [HL.out];omega))
   go_wp2_with fail
   go_ret
   exact ⟨by rw [HK0.out];rfl,HX.out.up⟩
  have hd:decide ((i:Int) < (n:Int))=true:=decide_eq_true (by omega)
  have i0:(0:Int)≤(i:Int):=by omega
  have i1:(i:Int) < (n:Int):=by omega
  obtain ⟨b,oo,r,rfl,hb,hr,hrg,hen⟩:=(HES.out w (Below.refl _ _)).er hlt
  have HR:=Lib.hid hr
  have HRG:Hid (∀ z,Below w.heap.size w z→z.rangeAt b (oo + i * 7) [.slice r.A r.e.row.length r.c,.int .i64 r.e.fam,.slice r.B r.e.qual.length r.d,.int .i64 r.e.ts,.int .i64 r.e.seq,.int .i64 r.e.kind,.slice r.D r.e.val.length r.q]):=Lib.hid fun z hz j v hj=>(hz.cell (p:=⟨b,_,none⟩) hb).trans (hrg j v hj)
  have HEN:Hid (∀ z,Below w.heap.size w z→r.En z):=Lib.hid fun z hz=>hen.later hz
  have HST:Hid (lookD ix L i=if checkE r.e ≠ 0 then checkE r.e else if 16 * ix + 15 < r.e.seq then 24 else if outP (prevE L i) r.e=true then 30 else lookD ix L (i + 1)):=Lib.hid (lookD_step ix L hr)
  obtain ⟨ck,hck⟩:∃ z,z=checkE r.e:=⟨_,rfl⟩
  have HCK:Hid (checkN r.e.row.length r.e.fam r.e.qual.length r.e.ts r.e.seq r.e.kind r.e.val.length=ck):=Lib.hid (by rw [hck];rfl)
  have HCK2:=Lib.hid hck
  clear hb hr hrg hen hck
  go_upto_region 5 with (first
   | (refine wl_rowR rfl 60 (.tmp 13) rfl rfl (HRG.out _ HX.out.up) ent_rowR ?_)
   | (refine wl_alloc rfl rfl [.slice none 0 0,.int .i64 0,.slice none 0 0,.int .i64 0,.int .i64 0,.int .i64 0,.slice none 0 0] (.inl (by kernel_rfl)) HX.out ?_;intro g6 y1 hz _;have HY1:Hid (OW w [boxO g6 [.slice none 0 0,.int .i64 0,.slice none 0 0,.int .i64 0,.int .i64 0,.int .i64 0,.slice none 0 0],boxO g2 [.int .i64 o.block,.int .i64 o.bits,.int .i64 ix,.int .i64 o.low,.int .i64 o.clock]] y1):=Lib.hid (hz.perm (fr_perm _ _));clear hz)
   | (refine wl_put rfl (.tmp 6) (.tmp 14) rfl HY1.out 0 rfl rfl [.slice r.A r.e.row.length r.c,.int .i64 r.e.fam,.slice r.B r.e.qual.length r.d,.int .i64 r.e.ts,.int .i64 r.e.seq,.int .i64 r.e.kind,.slice r.D r.e.val.length r.q] rfl rfl (by kernel_rfl) (by simp [Value.oneCell']) ?_;intro y2 hz _;have HY2:Hid (OW w [boxO g6 [.slice r.A r.e.row.length r.c,.int .i64 r.e.fam,.slice r.B r.e.qual.length r.d,.int .i64 r.e.ts,.int .i64 r.e.seq,.int .i64 r.e.kind,.slice r.D r.e.val.length r.q],boxO g2 [.int .i64 o.block,.int .i64 o.bits,.int .i64 ix,.int .i64 o.low,.int .i64 o.clock]] y2):=Lib.hid hz;clear hz HY1)
   | (refine wl_rowR rfl 60 (.tmp 6) rfl rfl (HY2.out.range (i:=0) rfl) ent_rowR ?_)
   | (go_at_call 161;go_must (refine (check_any _ _ _ _ _ _ _ _ _ _ _ _ _ _).mono ?_);rw [HCK.out];rintro e y3 ⟨rfl,hb⟩;have HY:=Lib.hid (HY2.out.later hb);clear hb HY2))
  by_cases hc:ck=0
  case neg =>
   have e0:(ck != 0)=true:=bne_iff_ne.2 hc
   have HKK:Hid (K=ck):=Lib.hid (by rw [← HK.out,HST.out,← HCK2.out,if_pos hc])
   clear hc
   go_wp2_with fail
   go_ret
   exact ⟨by rw [HKK.out];rfl,HY.out.up⟩
  have e0:(ck != 0)=false:=by rw [hc];rfl
  have HST2:Hid (K=if 16 * ix + 15 < r.e.seq then 24 else if outP (prevE L i) r.e=true then 30 else lookD ix L (i + 1)):=Lib.hid (by rw [← HK.out,HST.out,← HCK2.out,if_neg (fun h=>h hc)])
  clear hc
  by_cases hsq:16 * ix + 15 < r.e.seq
  case pos =>
   have e1:decide (r.e.seq > ix * 16 + 15)=true:=decide_eq_true (by omega)
   have HKK:Hid (K=24):=Lib.hid (by rw [HST2.out,if_pos hsq])
   clear hsq
   go_wp2_with (first
    | (refine wpList_load_cell rfl 3 (.tmp 21) rfl rfl (HY.out.cell (i:=0) (j:=4) rfl rfl) Tryz.isAgg3 ?_)
    | (refine wpList_load_cell rfl 3 (.tmp 23) rfl rfl (HY.out.cell (i:=1) (j:=2) rfl rfl) Tryz.isAgg3 ?_))
   go_ret
   exact ⟨by rw [HKK.out];rfl,HY.out.up⟩
  have e1:decide (r.e.seq > ix * 16 + 15)=false:=decide_eq_false (by omega)
  have HST3:Hid (K=if outP (prevE L i) r.e=true then 30 else lookD ix L (i + 1)):=Lib.hid (by rw [HST2.out,if_neg hsq])
  clear hsq HST HST2
  go_upto_region 9 with (first
   | (refine wpList_load_cell rfl 3 (.tmp 21) rfl rfl (HY.out.cell (i:=0) (j:=4) rfl rfl) Tryz.isAgg3 ?_)
   | (refine wpList_load_cell rfl 3 (.tmp 23) rfl rfl (HY.out.cell (i:=1) (j:=2) rfl rfl) Tryz.isAgg3 ?_))
  by_cases hi0:i=0
  case pos =>
   subst hi0
   have HKK:Hid (lookD ix L 1=K):=Lib.hid (by rw [HST3.out];rfl)
   clear HST3
   refine lt_start [] (by kernel_rfl) ?_
   intro xd hd
   refine ⟨fun z=>OW w [boxO g6 [.slice r.A r.e.row.length r.c,.int .i64 r.e.fam,.slice r.B r.e.qual.length r.d,.int .i64 r.e.ts,.int .i64 r.e.seq,.int .i64 r.e.kind,.slice r.D r.e.val.length r.q],boxO g2 [.int .i64 o.block,.int .i64 o.bits,.int .i64 ix,.int .i64 o.low,.int .i64 o.clock]] z,?_⟩
   have HS:=Lib.hid (HY.out.later hd)
   refine lp2 0 rfl (fun _=>HS.out) ?_
   simp only [Act.put,ls]
   refine lp2 1 rfl (fun _=>HS.out) ?_
   simp only [Act.put,ls]
   refine lp2 2 rfl (fun _=>HS.out) ?_
   simp only [Act.put,ls]
   refine lk 3 rfl (fun _=>HS.out) ?_
   simp only [Act.put,ls]
   refine lk 4 rfl (fun _=>HS.out) ?_
   simp only [Act.put,ls]
   refine lk 5 rfl (fun _=>HS.out) ?_
   simp only [Act.put,ls]
   refine lk 6 rfl (fun _=>HS.out) ?_
   simp only [Act.put,ls]
   refine lk 7 rfl (fun _=>HS.out) ?_
   simp only [Act.put,ls]
   refine lk 8 rfl (fun _=>HS.out) ?_
   simp only [Act.put,ls]
   refine lk 9 rfl (fun _=>HS.out) ?_
   simp only [Act.put,ls]
   refine lk 10 rfl (fun _=>HS.out) ?_
   simp only [Act.put,ls]
   refine lp2 11 rfl (fun _=>HS.out) ?_
   simp only [Act.put,ls]
   refine lp2 12 rfl (fun _=>HS.out) ?_
   simp only [Act.put,ls]
   refine lt_done (by kernel_rfl) ?_
   have HY3:=Lib.hid HS.out
   clear HS HY
   go_wp2_with fail
   go_roundw
   case rel=>exact ⟨1,by omega,by go_num,HKK,Lib.hid (HY3.out.erase 0)⟩
   case measure=>simp [intOf];omega
  have e2:decide ((i:Int) > 0)=true:=decide_eq_true (by omega)
  have e3:decide ((0:Int) < (i:Int))=true:=decide_eq_true (by omega)
  have i9:0 < i:=by omega
  have e4:decide (0 < i)=true:=decide_eq_true i9
  have i10:(1:Int)≤(i:Int):=by omega
  have s3:IntKind.i64.wrap ((i:Int) - 1)=(i:Int) - 1:=i64_sum (by omega) (by omega)
  obtain ⟨b',o',q,heq,hb',hq,hqg,hqn⟩:=(HES.out w (Below.refl _ _)).er (show i - 1 < n by omega)
  injection heq with heq
  injection heq with hb9 ho9
  subst hb9 ho9
  have i2:((i:Int) - 1).toNat=i - 1:=by omega
  have i3:(0:Int)≤(i:Int) - 1:=by omega
  have i4:(i:Int) - 1 < (n:Int):=by omega
  have HQG:Hid (∀ z,Below w.heap.size w z→z.rangeAt b (oo + (i - 1) * 7) [.slice q.A q.e.row.length q.c,.int .i64 q.e.fam,.slice q.B q.e.qual.length q.d,.int .i64 q.e.ts,.int .i64 q.e.seq,.int .i64 q.e.kind,.slice q.D q.e.val.length q.q]):=Lib.hid fun z hz j v hj=>(hz.cell (p:=⟨b,_,none⟩) hb').trans (hqg j v hj)
  have HQN:Hid (∀ z,Below w.heap.size w z→q.En z):=Lib.hid fun z hz=>hqn.later hz
  have HPV:Hid (prevE L i=some q.e):=Lib.hid (by unfold prevE;rw [if_neg hi0];exact hq)
  obtain ⟨cv,hcv⟩:∃ z,z=cmpE q.e r.e:=⟨_,rfl⟩
  have HCV:=Lib.hid hcv.symm
  have HST4:Hid (K=if 0≤cv then 30 else lookD ix L (i + 1)):=Lib.hid (by rw [HST3.out,HPV.out,hcv];show (if decide (0≤cmpE q.e r.e)=true then _ else _)=_;simp only [decide_eq_true_eq])
  clear hb' hq hqg hqn hcv HST3
  refine lt_start [] (by kernel_rfl) ?_
  intro xd hd
  refine ⟨fun z=>OW w [boxO g6 [.slice r.A r.e.row.length r.c,.int .i64 r.e.fam,.slice r.B r.e.qual.length r.d,.int .i64 r.e.ts,.int .i64 r.e.seq,.int .i64 r.e.kind,.slice r.D r.e.val.length r.q],boxO g2 [.int .i64 o.block,.int .i64 o.bits,.int .i64 ix,.int .i64 o.low,.int .i64 o.clock]] z,?_⟩
  have HS:=Lib.hid (HY.out.later hd)
  refine lp2 0 rfl (fun _=>HS.out) ?_
  simp only [Act.put,ls]
  refine lp2 1 rfl (fun _=>HS.out) ?_
  simp only [Act.put,ls]
  refine lp2 2 rfl (fun _=>HS.out) ?_
  simp only [Act.put,ls]
  refine lp2 3 rfl (fun _=>HS.out) ?_
  simp only [Act.put,ls]
  refine lp2 4 rfl (fun _=>HS.out) ?_
  simp only [Act.put,ls]
  refine lp2 5 rfl (fun _=>HS.out) ?_
  simp only [Act.put,ls]
  refine lp2 6 rfl (fun _=>HS.out) ?_
  simp only [Act.put,ls]
  refine lq 7 [9,10,11,12] rfl (yi_rowO rfl rfl rfl (fun w hS=>HQG.out w hS.up) ent_rowR) HS.out ?_
  simp only [Act.put,ls]
  refine lq 8 [9,10,11,12] rfl (yi_row rfl rfl rfl (fun w hS=>OW.range hS (i:=0) rfl) ent_rowR) HS.out ?_
  simp only [Act.put,ls]
  refine lt_call 9 rfl (by kernel_rfl) rfl rfl ⟨_,Tryz.func93,by decide,by kernel_rfl⟩ [.agg #[.slice q.A q.e.row.length q.c,.int .i64 q.e.fam,.slice q.B q.e.qual.length q.d,.int .i64 q.e.ts,.int .i64 q.e.seq,.int .i64 q.e.kind,.slice q.D q.e.val.length q.q],.agg #[.slice r.A r.e.row.length r.c,.int .i64 r.e.fam,.slice r.B r.e.qual.length r.d,.int .i64 r.e.ts,.int .i64 r.e.seq,.int .i64 r.e.kind,.slice r.D r.e.val.length r.q]] rfl ?_
  refine (compare_any q.e r.e q.A _ q.c q.B _ q.d q.D _ q.q r.A _ r.c r.B _ r.d r.D _ r.q _ (HQN.out _ HS.out.up) (HEN.out _ HS.out.up)).mono ?_
  rw [HCV.out]
  rintro rr z9 ⟨rfl,hb⟩
  replace HS:=Lib.hid (HS.out.later hb)
  clear hb
  refine ⟨_,rfl,fun _=>HS.out,?_⟩
  simp only [Act.put,ls]
  refine lp2 10 rfl (fun _=>HS.out) ?_
  simp only [Act.put,ls]
  refine lp2 11 rfl (fun _=>HS.out) ?_
  simp only [Act.put,ls]
  refine lp2 12 rfl (fun _=>HS.out) ?_
  simp only [Act.put,ls]
  refine lt_done (by kernel_rfl) ?_
  have HY3:=Lib.hid HS.out
  clear HS HY
  by_cases hcv:0≤cv
  case pos =>
   have e5:decide (cv ≥ 0)=true:=decide_eq_true hcv
   have e6:decide (0≤cv)=true:=decide_eq_true hcv
   have HKK:Hid (K=30):=Lib.hid (by rw [HST4.out,if_pos hcv])
   go_wp2_with fail
   go_ret
   exact ⟨by rw [HKK.out];rfl,HY3.out.up⟩
  have e5:decide (cv ≥ 0)=false:=decide_eq_false (by omega)
  have e6:decide (0≤cv)=false:=decide_eq_false hcv
  have HKK:Hid (lookD ix L (i + 1)=K):=Lib.hid (by rw [HST4.out,if_neg hcv])
  go_wp2_with fail
  go_roundw
  case rel=>exact ⟨i + 1,by omega,by go_num,HKK,Lib.hid (HY3.out.erase 0)⟩
  case measure=>simp [intOf];omega
end Go.Proofs.YtfdbcfaeiglbeaaGreatDoor
