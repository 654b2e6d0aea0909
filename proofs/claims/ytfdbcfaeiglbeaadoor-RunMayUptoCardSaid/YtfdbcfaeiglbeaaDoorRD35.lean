/-
 RunLaw, RunM1.
-/
import Derived.Test.YtfdbcfaeiglbeaaDoorRD33
import Derived.Test.YtfdbcfaeiglbeaaDoorRD34
namespace Go.Proofs.YtfdbcfaeiglbeaaDoor
open Go.RowKit Go.WideShapes Go.ChangeShapes Go.Joins Go.Deep
theorem ens_of_cellsP {P:Ent→Prop} {w:World} {b o n:Nat} (hb:b < w.heap.size) (h:∀ i,i < n→∃ r:ER,(∀ j v,r.cells[j]?=some v→w.cell? ⟨b,o + (i * 7 + j),none⟩=some v)∧r.En w∧P r.e):∃ L,Ens w (some ⟨b,o,none⟩) n L∧∀ e,e ∈ L→P e:=by
 have hh:∀ m,m≤n→∃ rs:List ER,rs.length=m∧(∀ i r,rs[i]?=some r→(∀ j v,r.cells[j]?=some v→w.cell? ⟨b,o + (i * 7 + j),none⟩=some v)∧r.En w∧P r.e):=by
  intro m
  induction m with
  | zero=>intro _;exact ⟨[],rfl,fun i r hr=>by cases hr⟩
  | succ m ih =>
   intro hm
   obtain ⟨rs,h1,h2⟩:=ih (by omega)
   obtain ⟨r,hr⟩:=h m (by omega)
   refine ⟨rs ++ [r],by rw [List.length_append,h1];rfl,fun i q hq=>?_⟩
   rw [List.getElem?_append] at hq
   split at hq
   ·exact h2 i q hq
   ·rename_i hlt
    obtain rfl:i=m:=by
     have:=(List.getElem?_eq_some_iff.1 hq).1
     simp at this;omega
    rw [h1,Nat.sub_self] at hq
    injection hq with hq
    subst hq;exact hr
 obtain ⟨rs,h1,h2⟩:=hh n (Nat.le_refl _)
 refine ⟨rs.map ER.e,⟨rs,rfl,⟨by rw [flat7_len,h1],fun _=>⟨b,o,rfl,hb,fun j u hu=>?_⟩⟩,fun r hr=>?_⟩,fun e he=>?_⟩
 ·have hj:j < rs.length * 7:=by have:=(List.getElem?_eq_some_iff.1 hu).1;rwa [flat7_len] at this
  obtain ⟨r,hr⟩:∃ r,rs[j / 7]?=some r:=⟨_,List.getElem?_eq_getElem (by omega)⟩
  have e:j=j / 7 * 7 + j % 7:=by omega
  rw [e] at hu ⊢
  rw [flat7_at hr (j % 7) (by omega)] at hu
  exact (h2 _ r hr).1 (j % 7) u hu
 ·obtain ⟨i,hi⟩:=List.getElem?_of_mem hr
  exact (h2 i r hi).2.1
 ·obtain ⟨r,hr,rfl⟩:=List.mem_map.1 he
  obtain ⟨i,hi⟩:=List.getElem?_of_mem hr
  exact (h2 i r hi).2.2
section
variable {H : Type} {enc : TypeId × Value → H} {w : World} {base : Nat} {held : Bool}
set_option maxRecDepth 100000 in
theorem upto_ents7 {fuel:Nat} {cs:List Value} {x:DataW H×List MemPlace} (h:DataW.trod enc Tryd.prog w base (fun _=>true) held fuel 24 cs=some x) (hb:Rows.uptoBulk x.1≤1048576) :
  ∃ (A:Option Addr) (n c:Nat) (L:List Ent),cs=[.slice A n c]∧n≤c∧c≤1048576∧Ens w A n L∧(∀ e,e ∈ L→e.row.length≤1048576∧e.qual.length≤1048576∧e.val.length≤1048576):=by
 rcases upto_structs Tryd.underlying24 Tryd.underlying30 (by kernel_rfl) (by kernel_rfl) h with rfl | ⟨a,len,cap,rfl,hl,hm,hc,hi⟩
 ·exact ⟨none,0,0,[],rfl,by omega,by omega,Ens.nil,fun e h=>by cases h⟩
 ·rcases Nat.eq_zero_or_pos len with h0 | hn
  ·subst h0;exact ⟨some a,0,cap,[],rfl,hl,by omega,Ens.nil,fun e h=>by cases h⟩
  obtain ⟨v,y,n,c0,_⟩:=hi 0 hn 0 _ rfl
  have c0':w.cell? (a.add 0)=some v:=c0
  rw [show a.add 0=a from by simp [Addr.add]] at c0'
  have hsp:=spot_none c0'
  have hb0:=World.block_lt_of_cell? w a c0'
  obtain ⟨L,hL,hLP⟩:=ens_of_cellsP (P:=fun e=>e.row.length≤1048576∧e.qual.length≤1048576∧e.val.length≤1048576) (w:=w) (b:=a.block) (o:=a.off) (n:=len) hb0 fun i him=>by
   obtain ⟨v0,y0,n0,c0,t0,u0⟩:=hi i him 0 _ rfl
   obtain ⟨v1,y1,n1,c1,t1,_⟩:=hi i him 1 _ rfl
   obtain ⟨v2,y2,n2,c2,t2,u2⟩:=hi i him 2 _ rfl
   obtain ⟨v3,y3,n3,c3,t3,_⟩:=hi i him 3 _ rfl
   obtain ⟨v4,y4,n4,c4,t4,_⟩:=hi i him 4 _ rfl
   obtain ⟨v5,y5,n5,c5,t5,_⟩:=hi i him 5 _ rfl
   obtain ⟨v6,y6,n6,c6,t6,u6⟩:=hi i him 6 _ rfl
   obtain ⟨A,m,c,l,rfl,hs,hx1⟩:=field_bytes Tryd.underlying28 Tryd.underlying5 (by kernel_rfl) t0
   obtain ⟨fam,rfl,_⟩:=field_int Tryd.underlying3 t1
   obtain ⟨B,m2,d,l2,rfl,hs2,hx2⟩:=field_bytes Tryd.underlying28 Tryd.underlying5 (by kernel_rfl) t2
   obtain ⟨ts,rfl,_⟩:=field_int Tryd.underlying3 t3
   obtain ⟨sq,rfl,_⟩:=field_int Tryd.underlying3 t4
   obtain ⟨kd,rfl,_⟩:=field_int Tryd.underlying3 t5
   obtain ⟨D,m3,q,l3,rfl,hs3,hx3⟩:=field_bytes Tryd.underlying28 Tryd.underlying5 (by kernel_rfl) t6
   have f1:=hs.cap
   have f2:=hs2.cap
   have f3:=hs3.cap
   have e1:=hs.rb.len
   have e2:=hs2.rb.len
   have e3:=hs3.rb.len
   subst e1 e2 e3
   rw [addr_add _ _ hsp] at c0 c1 c2 c3 c4 c5 c6
   refine ⟨⟨A,c,B,d,D,q,⟨l,fam,l2,ts,sq,kd,l3⟩⟩,fun j v hj=>?_,⟨hs,hs2,hs3⟩,by show l.length≤1048576∧l2.length≤1048576∧l3.length≤1048576;omega⟩
   match j,hj with
   | 0,hj=>injection hj with hj;subst hj;exact c0
   | 1,hj=>injection hj with hj;subst hj;exact c1
   | 2,hj=>injection hj with hj;subst hj;exact c2
   | 3,hj=>injection hj with hj;subst hj;exact c3
   | 4,hj=>injection hj with hj;subst hj;exact c4
   | 5,hj=>injection hj with hj;subst hj;exact c5
   | 6,hj=>injection hj with hj;subst hj;exact c6
  exact ⟨some a,len,cap,L,rfl,hl,by omega,by obtain ⟨b,o,sp⟩:=a;simp at hsp;subst hsp;exact hL,hLP⟩
set_option maxRecDepth 100000 in
theorem upto_ents7_top {r:Reach} {b0:Nat} {v:Value} {d:DataW H} {ps:List MemPlace} (hval:Value.okWide Tryd.prog w r b0 24 v) (h:DataW.Trod enc Tryd.prog w base (fun _=>true) held 24 v d ps) (hb:Rows.uptoBulk d≤1048576) :
  ∃ (A:Option Addr) (n c:Nat) (L:List Ent),v = .slice A n c∧n≤1048576∧Ens w A n L∧(∀ e,e ∈ L→e.row.length≤1048576∧e.qual.length≤1048576∧e.val.length≤1048576):=by
 obtain ⟨fuel,hf⟩:=open_slice_top Tryd.underlying24 hval h
 obtain ⟨A,n,c,L,h1,h2,h3,h4,h5⟩:=upto_ents7 hf hb
 injection h1 with h1
 exact ⟨A,n,c,L,h1,by omega,h4,h5⟩
set_option maxRecDepth 100000 in
theorem open_opts {spare:Nat→Bool} {r:Reach} {b0:Nat} {v:Value} {d:DataW H} {ps:List MemPlace} (hval:Value.okWide Tryd.prog w r b0 23 v) (h:DataW.Trod enc Tryd.prog w base spare held 23 v d ps):∃ o:OptR,v=optV o:=by
 obtain ⟨cs,rfl,hsz⟩:=okWide_struct Tryd.underlying23 hval
 obtain ⟨fuel,hf⟩:=h
 have hC:Tryd.prog.cellsOf 23=5:=by kernel_rfl
 have hI:Tryd.prog.cellsOf 3=1:=by kernel_rfl
 rw [hC] at hsz
 obtain ⟨l⟩:=cs
 match l,hsz with
 | [v0,v1,v2,v3,v4],_ =>
  obtain ⟨xs,k,rfl,_,_,hlen,hi⟩:=DataW.trod_struct Tryd.underlying23 hf
  match xs,hlen with
  | [x0,x1,x2,x3,x4],_ =>
   have t0:DataW.trod enc Tryd.prog w base spare held k 3 (([v0,v1,v2,v3,v4].drop 0).take (Tryd.prog.cellsOf 3))=some x0:=hi 0 _ rfl
   have t1:DataW.trod enc Tryd.prog w base spare held k 3 (([v0,v1,v2,v3,v4].drop 1).take (Tryd.prog.cellsOf 3))=some x1:=hi 1 _ rfl
   have t2:DataW.trod enc Tryd.prog w base spare held k 3 (([v0,v1,v2,v3,v4].drop 2).take (Tryd.prog.cellsOf 3))=some x2:=hi 2 _ rfl
   have t3:DataW.trod enc Tryd.prog w base spare held k 3 (([v0,v1,v2,v3,v4].drop 3).take (Tryd.prog.cellsOf 3))=some x3:=hi 3 _ rfl
   have t4:DataW.trod enc Tryd.prog w base spare held k 3 (([v0,v1,v2,v3,v4].drop 4).take (Tryd.prog.cellsOf 3))=some x4:=hi 4 _ rfl
   rw [hI] at t0 t1 t2 t3 t4
   obtain ⟨i0,e0,_,_⟩:=DataW.trod_int Tryd.underlying3 t0
   obtain ⟨i1,e1,_,_⟩:=DataW.trod_int Tryd.underlying3 t1
   obtain ⟨i2,e2,_,_⟩:=DataW.trod_int Tryd.underlying3 t2
   obtain ⟨i3,e3,_,_⟩:=DataW.trod_int Tryd.underlying3 t3
   obtain ⟨i4,e4,_,_⟩:=DataW.trod_int Tryd.underlying3 t4
   injection e0 with e0 _
   injection e1 with e1 _
   injection e2 with e2 _
   injection e3 with e3 _
   injection e4 with e4 _
   have e0:v0=_:=e0
   have e1:v1=_:=e1
   have e2:v2=_:=e2
   have e3:v3=_:=e3
   have e4:v4=_:=e4
   subst e0 e1 e2 e3 e4
   exact ⟨⟨i0,i1,i2,i3,i4⟩,rfl⟩
end
end Go.Proofs.YtfdbcfaeiglbeaaDoor
namespace Go.Proofs.YtfdbcfaeiglbeaaDoor
open Go.RowKit
theorem first_chk:checkE firstE=0:=by decide +kernel
theorem insE_ge (m:List Ent) (e:Ent):m.length≤(insE m e).length:=by
 unfold insE
 split
 ·omega
 ·rw [List.length_append,List.length_cons,List.length_take,List.length_drop];omega
theorem ordStep_ge (ix:Int) (m:List Ent) (e:Ent):m.length≤(ordStep ix m e).length:=by
 unfold ordStep
 split
 ·omega
 ·exact insE_ge m e
theorem fold_ge (ix:Int):∀ (es m:List Ent),m.length≤(es.foldl (ordStep ix) m).length
 | [],_=>Nat.le_refl _
 | e::es,m=>Nat.le_trans (ordStep_ge ix m e) (fold_ge ix es _)
theorem ordL_ne {ix:Int} (hi:33≤16 * ix + 15) (es:List Ent):ordL ix ((firstE::es).take 120) ≠ []:=fun h=>by
 have h1:=fold_ge ix (es.take 119) (ordStep ix [] firstE)
 have h2:ordL ix ((firstE::es).take 120)=(es.take 119).foldl (ordStep ix) (ordStep ix [] firstE):=by
  rw [List.take_succ_cons];rfl
 have h3:ordStep ix [] firstE=insE [] firstE:=by
  unfold ordStep
  rw [if_neg]
  rintro (h | h)
  ·exact h first_chk
  ·have h:16 * ix + 15 < 33:=h
   omega
 have h4:(insE [] firstE).length=1:=by decide +kernel
 rw [← h2,h,h3,h4] at h1
 exact absurd h1 (by decide)
theorem first_len {es:List Ent} (h:∀ e,e ∈ es→e.row.length≤1048576∧e.qual.length≤1048576∧e.val.length≤1048576):∀ e,e ∈ firstE::es→e.row.length≤140737488355000∧e.qual.length≤140737488355000∧e.val.length≤140737488355000:=fun e he=>by
 rcases List.mem_cons.1 he with rfl | he
 ·exact ⟨by decide,by decide,by decide⟩
 ·obtain ⟨h1,h2,h3⟩:=h e he
  exact ⟨by omega,by omega,by omega⟩
theorem cells7_one (rs:List ER):∀ u ∈ rs.flatMap ER.cells,u.oneCell'=true:=fun u hu=>by
 obtain ⟨r,_,h⟩:=List.mem_flatMap.1 hu
 simp only [ER.cells,List.mem_cons,List.not_mem_nil,or_false] at h
 rcases h with rfl | rfl | rfl | rfl | rfl | rfl | rfl <;> rfl
theorem runC_ne (o:OptR) (L:List Ent):0 < (runBy o L).length:=by
 have h:runBy o L=magR ++ (blocksR (cutR o.block.toNat [] L) ++ (sumdB (filtR o L) ++ (sumdB (indexR (cutR o.block.toNat [] L)) ++ frameB (risBs (numsR o L (cutR o.block.toNat [] L)))))):=by
  unfold runBy runC headR;simp only [List.append_assoc]
 rw [h,List.length_append]
 show 0 < 8 + _
 omega
set_option maxRecDepth 1000000 in
set_option maxHeartbeats 16000000 in
theorem mayL_any (oa:OptR) (es:List Ent) (A:Option Addr) (n c:Nat) (ks:List (List UInt8)) (KA:Option Addr) (kn kc:Nat) (w:World) (hes:Ens w A n es) (hn:n≤1048576)
  (hel:∀ e,e ∈ es→e.row.length≤1048576∧e.qual.length≤1048576∧e.val.length≤1048576) (ht:TabAt 1 w) (hks:RBs w w.heap.size KA kn ks) (hkn:kn≤9223372036854775807) (hkl:∀ k,k ∈ ks→k.length≤1048576) :
  Calls Tryd.prog 3 #[optV oa,.slice A n c,.slice KA kn kc] w fun e z=>e = .returned (.bool true)∧Below w.heap.size w z:=by
 obtain ⟨vs,hv1,hv2,hv3⟩:=hks
 have HVS:Hid (∀ z,Below w.heap.size w z→Reads z w.heap.size 1 KA kn vs):=Lib.hid fun z hz=>hv1.below hz
 have HKN:Hid (ks.length=kn):=Lib.hid (by have h:=hv1.1;rw [Nat.mul_one] at h;rw [← hv2,h])
 have HKV:Hid (∀ i k,ks[i]?=some k→∃ (a:Option Addr) (cc:Nat),vs[i]?=some (Value.slice a k.length cc)∧∀ z,Below w.heap.size w z→Sl z a k.length cc k):=Lib.hid fun i k hi=>by
  obtain ⟨a,cc,h1,h2,h3,h4,h5⟩:=hv3 i k hi
  exact ⟨a,cc,h1,fun z hz=>(show Sl w a k.length cc k from ⟨h5,h2,h3,h4⟩).later hz⟩
 have HKL:=Lib.hid hkl
 clear hv1 hv2 hv3 hkl
 obtain ⟨rs0,hrs0,hrd0,hen0⟩:=hes
 have HRD:Hid (∀ z,Below w.heap.size w z→Reads z w.heap.size 7 A n (rs0.flatMap ER.cells)):=Lib.hid fun z hz=>hrd0.below hz
 have HEN:Hid (∀ z,Below w.heap.size w z→∀ r,r ∈ rs0→r.En z):=Lib.hid fun z hz r hr=>(hen0 r hr).later hz
 have HRS:=Lib.hid hrs0
 have HTB:Hid (∀ z,Below w.heap.size w z→TabAt 1 z):=Lib.hid fun z hz=>ht.later hz
 have HFL:Hid (∀ e,e ∈ firstE::es→e.row.length≤140737488355000∧e.qual.length≤140737488355000∧e.val.length≤140737488355000):=Lib.hid (first_len hel)
 obtain ⟨v0,v1,v2,v3,v4,hv⟩:∃ v0 v1 v2 v3 v4,optF oa=⟨v0,v1,v2,v3,v4⟩:=⟨_,_,_,_,_,rfl⟩
 have HOA:Hid (optV (optF oa) = .agg #[.int .i64 v0,.int .i64 v1,.int .i64 v2,.int .i64 v3,.int .i64 v4]):=Lib.hid (by rw [hv];rfl)
 have HKA:Hid (optOk ⟨v0,v1,1099511627776,v3,v4⟩=true):=Lib.hid (by have h:=optX_ok oa;unfold optX at h;rw [hv] at h;exact h)
 obtain ⟨L,hL⟩:∃ L,L=ordL 1099511627776 ((firstE::es).take 120):=⟨_,rfl⟩
 have HL:=Lib.hid hL.symm
 have HLN:Hid (L ≠ []):=Lib.hid (by rw [hL];exact ordL_ne (by decide) es)
 have HOL:Hid (OrdOk 1099511627776 L):=Lib.hid (by rw [hL];exact ord_ok _ _)
 have HL1:Hid (L.length≤120):=Lib.hid (by rw [hL];exact Nat.le_trans (ord_len _ _) (by rw [List.length_take];omega))
 have HRA:Hid (refuseR ⟨v0,v1,1099511627776,v3,v4⟩ L=0):=Lib.hid (refuse_of HKA.out HLN.out HOL.out)
 have HSA:Hid ((runBy ⟨v0,v1,1099511627776,v3,v4⟩ L).length≤16777216):=Lib.hid (run_small HRA.out (by have:=HL1.out;omega))
 obtain ⟨xb,hxb⟩:∃ x,x=runBy ⟨v0,v1,1099511627776,v3,v4⟩ L:=⟨_,rfl⟩
 have HXB:=Lib.hid hxb.symm
 have HXP:Hid (0 < xb.length∧xb.length≤16777216):=Lib.hid (by rw [hxb];exact ⟨runC_ne _ _,HSA.out⟩)
 have HX:=Lib.hid (OW.nil w)
 clear hrd0 hen0 hrs0 hel ht hv hL hxb
 unfold optV
 go_enter Tryd.func3,Tryd.ntmps3
 go_wp2_with (first
  | (refine wl_box rfl (.tmp 0) rfl [.int .i64 oa.block,.int .i64 oa.bits,.int .i64 oa.index,.int .i64 oa.low,.int .i64 oa.clock] rfl HX.out ?_;intro g1 x1 hz _;have HX1:Hid (OW w [boxO g1 [.int .i64 oa.block,.int .i64 oa.bits,.int .i64 oa.index,.int .i64 oa.low,.int .i64 oa.clock]] x1):=Lib.hid hz;clear hz HX)
  | (refine wl_rowR rfl 23 (.tmp 3) rfl rfl (HX1.out.range (i:=0) rfl) opts_row ?_)
  | (go_at_call 4;go_must (refine (options_any oa _).mono ?_);rw [HOA.out];rintro e x2 ⟨rfl,hb⟩;have HX2:=Lib.hid (HX1.out.later hb);clear hb HX1)
  | (refine wl_alloc rfl rfl [.int .i64 0,.int .i64 0,.int .i64 0,.int .i64 0,.int .i64 0] (.inl (by kernel_rfl)) HX2.out ?_;intro g2 x3 hz _;have HX3:Hid (OW w [boxO g1 [.int .i64 oa.block,.int .i64 oa.bits,.int .i64 oa.index,.int .i64 oa.low,.int .i64 oa.clock],boxO g2 [.int .i64 0,.int .i64 0,.int .i64 0,.int .i64 0,.int .i64 0]] x3):=Lib.hid hz;clear hz HX2)
  | (refine wl_put rfl (.tmp 7) (.tmp 14) rfl HX3.out 1 rfl rfl [.int .i64 v0,.int .i64 v1,.int .i64 v2,.int .i64 v3,.int .i64 v4] rfl rfl (by kernel_rfl) (by simp [Value.oneCell']) ?_;intro x4 hz _;have HX4:Hid (OW w [boxO g1 [.int .i64 oa.block,.int .i64 oa.bits,.int .i64 oa.index,.int .i64 oa.low,.int .i64 oa.clock],boxO g2 [.int .i64 v0,.int .i64 v1,.int .i64 v2,.int .i64 v3,.int .i64 v4]] x4):=Lib.hid hz;clear hz HX3)
  | (refine wl_put1 rfl (.tmp 15) (.const (.int .i64 1099511627776)) rfl HX4.out 1 rfl 2 rfl (by simp) _ rfl (by kernel_rfl) rfl ?_;intro x5 hz _;have HX5:Hid (OW w [boxO g1 [.int .i64 oa.block,.int .i64 oa.bits,.int .i64 oa.index,.int .i64 oa.low,.int .i64 oa.clock],boxO g2 [.int .i64 v0,.int .i64 v1,.int .i64 1099511627776,.int .i64 v3,.int .i64 v4]] x5):=Lib.hid hz;clear hz HX4))
 refine lt_start [] (by kernel_rfl) ?_
 intro xd hd
 refine ⟨fun z=>OW w [boxO g1 [.int .i64 oa.block,.int .i64 oa.bits,.int .i64 oa.index,.int .i64 oa.low,.int .i64 oa.clock],boxO g2 [.int .i64 v0,.int .i64 v1,.int .i64 1099511627776,.int .i64 v3,.int .i64 v4]] z,?_⟩
 have HS:=Lib.hid (HX5.out.later hd)
 refine lp2 2 rfl (fun _=>HS.out) ?_
 simp only [Act.put,ls]
 refine lp2 4 rfl (fun _=>HS.out) ?_
 simp only [Act.put,ls]
 refine lq 5 [6,7] rfl (yi_cell rfl rfl rfl (fun w hS=>OW.cell hS (i:=1) (j:=2) rfl rfl) Tryd.isAgg3) HS.out ?_
 simp only [Act.put,ls]
 refine lt_call 0 rfl (by kernel_rfl) rfl rfl ⟨_,Tryd.func6,by decide,by kernel_rfl⟩ [] rfl ?_
 refine (first_any _).mono ?_
 rintro e x6 ⟨FA,FB,FD,rfl,hen,hb⟩
 have HFE:Hid (∀ z,Below x6.heap.size x6 z→En z FA 1 1 FB 1 1 FD 1 1 firstE):=Lib.hid fun z hz=>hen.later hz
 replace HS:=Lib.hid (HS.out.later hb)
 have HN6:=Lib.hid (OW.nil x6)
 clear hen hb
 refine ⟨_,rfl,fun _=>HS.out,?_⟩
 simp only [Act.put,ls]
 refine lt_op 1 rfl (by kernel_rfl) rfl ?_
 refine wpo_build rfl #[.slice FA 1 1,.int .i64 0,.slice FB 1 1,.int .i64 7,.int .i64 33,.int .i64 1,.slice FD 1 1] Tryd.entsS (.agg #[.slice none 0 0,.int .i64 0,.slice none 0 0,.int .i64 0,.int .i64 0,.int .i64 0,.slice none 0 0]) (by kernel_rfl) (by decide) (by decide) (by decide) rfl (by first | rfl | kernel_rfl) HN6.out ?_
 intro g7 x7 hz _
 have HR7:Hid (OW x6 [rowO 30 7 (.slice (some ⟨g7,0,none⟩) 1 1) 1 [.slice FA 1 1,.int .i64 0,.slice FB 1 1,.int .i64 7,.int .i64 33,.int .i64 1,.slice FD 1 1]] x7):=Lib.hid hz
 have HS6:=HS
 replace HS:=Lib.hid (HS.out.later hz.up)
 clear hz HN6
 refine ⟨fun _=>HS.out,?_⟩
 simp only [Act.put,ls]
 refine lt_op 3 rfl (by kernel_rfl) rfl ?_
 refine wpo_append (.tmp 17) (.tmp 18) rfl Tryd.entsS HR7.out 0 rfl rfl _ A n c (rs0.flatMap ER.cells) rfl (HRD.out _ HS.out.up) (cells7_one rs0) (by unfold maxLen;omega) (by omega) ?_
 intro A8 c8 x8 hz _
 have HR8:Hid (OW x6 [rowO 30 7 (.slice A8 (1 + n) c8) (1 + n) ([.slice FA 1 1,.int .i64 0,.slice FB 1 1,.int .i64 7,.int .i64 33,.int .i64 1,.slice FD 1 1] ++ rs0.flatMap ER.cells)] x8):=Lib.hid hz
 replace HS:=Lib.hid (HS6.out.later hz.up)
 clear hz HR7 HS6
 refine ⟨fun _=>HS.out,?_⟩
 simp only [Act.put,ls]
 refine lt_call 6 rfl (by kernel_rfl) rfl rfl ⟨_,Tryd.func5,by decide,by kernel_rfl⟩ [.slice A8 (1 + n) c8,.int .i64 1099511627776] rfl ?_
 have hE8:Ens x8 A8 (1 + n) (firstE::es):=by
  have h:=HR8.out.ens (rs:=⟨FA,1,FB,1,FD,1,firstE⟩::rs0) (i:=0) rfl (fun r hr=>by
   rcases List.mem_cons.1 hr with rfl | hr
   ·exact HFE.out _ HR8.out.up
   ·exact HEN.out _ HS.out.up r hr)
  rw [List.map_cons,HRS.out] at h
  exact h
 refine (ordered7_any 1099511627776 (by decide) (firstE::es) A8 (1 + n) c8 _ hE8 HFL.out).mono ?_
 rw [HL.out]
 rintro e x9 ⟨LA,lc,ll,rfl,hll,hE,hb⟩
 have HLE:Hid (∀ z,Below x9.heap.size x9 z→Ens z LA ll L):=Lib.hid fun z hz=>hE.later hz
 have HLL:Hid (L.length=ll):=Lib.hid hE.len
 replace HS:=Lib.hid (HS.out.later hb)
 clear hE hb hE8 HR8 HFE
 refine ⟨_,rfl,fun _=>HS.out,?_⟩
 simp only [Act.put,ls]
 refine lp2 7 rfl (fun _=>HS.out) ?_
 simp only [Act.put,ls]
 refine lt_done (by kernel_rfl) ?_
 have HX9:Hid (OW w [boxO g1 [.int .i64 oa.block,.int .i64 oa.bits,.int .i64 oa.index,.int .i64 oa.low,.int .i64 oa.clock],boxO g2 [.int .i64 v0,.int .i64 v1,.int .i64 1099511627776,.int .i64 v3,.int .i64 v4]] x9):=HS
 have HU9:=Lib.hid HX9.out.up
 clear HS HX5
 go_upto_region 5 with (first
  | (refine wl_rowR rfl 23 (.tmp 7) rfl rfl (HX9.out.range (i:=1) rfl) opts_row ?_)
  | (go_at_call 7;go_must (refine (made_yes ⟨v0,v1,1099511627776,v3,v4⟩ L LA ll lc _ (HLE.out _ (Below.refl _ _)) (by omega) HRA.out HSA.out (HTB.out _ HX9.out.up)).mono ?_);rw [HXB.out];rintro e x10 ⟨q,XA,xm,xcp,hq1,hq2,hxl,rfl,hz⟩;have HXL:=Lib.hid hxl;have HQ:=Lib.hid (And.intro hq1 hq2);have HXQ:Hid (OW x9 (bytO 5 (XA,xcp,xb)::q.obs) x10):=Lib.hid hz;clear hxl hq1 hq2 hz))
 have HMY:Hid (∀ e,e ∈ L→mayR q.r e.row=true):=Lib.hid fun e he=>by rw [HQ.out.1];exact may_yes HRA.out (by have:=HL1.out;omega) he
 have HMN:Hid (∀ a b row,L[0]?=some a→L[ll - 1]?=some b→(cmpB row a.row < 0∨0 < cmpB row b.row)→mayR q.r row=false):=Lib.hid fun a b row ha hb hr=>by rw [HQ.out.1];exact may_no HRA.out ha (by rw [HLL.out];exact hb) hr
 have HO10:Hid (OW x9 q.obs x10):=Lib.hid (OW.right (os:=[bytO 5 (XA,xcp,xb)]) HXQ.out)
 have hll0:0 < ll:=by
  rw [← HLL.out];exact List.length_pos_iff.2 HLN.out
 have hll120:ll≤120:=hll.1
 have HBE:Hid (∀ e,e ∈ L→e.row.length≤140737488355000):=Lib.hid fun e he=>by have h:=(ok_of (HOL.out.chk e he)).row;omega
 clear HXQ HLN
 go_wp2_with fail
 go_loopw [11] (fun iv wr=>∃ i:Nat,i≤ll∧iv = .int .i64 i∧Hid (OW x9 q.obs wr)) (fun iv _=>ll - (intOf iv).toNat)
 case atStart=>exact ⟨0,Nat.zero_le _,rfl,HO10⟩
 case round =>
  clear HO10
  obtain ⟨i,hi,rfl,HO⟩:=hrel
  by_cases hlt:i < ll
  case pos =>
   have hd:decide ((i:Int) < (ll:Int))=true:=decide_eq_true (by omega)
   have i0:(0:Int)≤(i:Int):=by omega
   have i1:(i:Int) < (ll:Int):=by omega
   obtain ⟨b,oo,Ar,ec,B,d,D,qq,e,hLA,hbl,hek,hrg,hen⟩:=(HLE.out _ HO.out.up).at_ hlt
   subst hLA
   have hc0:=hrg 0 _ rfl
   have HSR:=Lib.hid hen.row
   have HMT:=Lib.hid (HMY.out e (List.mem_of_getElem? hek))
   have HAT:Hid (RunAt q wr):=Lib.hid (RunAt.of HQ.out.2.ok HO.out (List.Sublist.refl _))
   clear hek hrg hen hbl
   go_wp2_with (first
    | (refine wpList_load_cell rfl 28 (.tmp 41) rfl rfl (by first | exact hc0 | simpa using hc0) Tryd.isAgg28 ?_)
    | (go_at_call 8;go_must (refine (may_any q _ HAT.out HQ.out.2 e.row Ar _ ec HSR.out).mono ?_);rw [HMT.out];rintro r y1 ⟨rfl,hb⟩;have HO1:=Lib.hid (HO.out.later hb);clear hb))
   go_roundw
   case rel=>exact ⟨i + 1,by omega,by go_num,HO1⟩
   case measure=>simp [intOf];omega
  have hd:decide ((i:Int) < (ll:Int))=false:=decide_eq_false (by omega)
  go_wp2_with fail
  rename World=>wq
  have HO9:=HO
  clear hlt hi
  go_loopw [12] (fun iv wr=>∃ i:Nat,i≤kn∧iv = .int .i64 i∧Hid (OW x9 q.obs wr)) (fun iv _=>kn - (intOf iv).toNat)
  case atStart=>exact ⟨0,Nat.zero_le _,rfl,HO9⟩
  case round =>
   clear HO9 HO
   obtain ⟨k,hk,rfl,HO⟩:=hrel
   by_cases hlt:k < kn
   case neg =>
    have hd:decide ((k:Int) < (kn:Int))=false:=decide_eq_false (by omega)
    go_wp2_with fail
    go_ret
    exact ⟨rfl,HU9.out.trans (HO.out.up.mono HU9.out.size)⟩
   have hd:decide ((k:Int) < (kn:Int))=true:=decide_eq_true (by omega)
   have i0:(0:Int)≤(k:Int):=by omega
   have i1:(k:Int) < (kn:Int):=by omega
   have hub:Below w.heap.size w wr:=HU9.out.trans (HO.out.up.mono HU9.out.size)
   obtain ⟨kb,ko,hKA,hkb,hkc⟩:=(HVS.out _ (Below.refl _ _)).2 (by omega)
   subst hKA
   obtain ⟨key,hkey⟩:∃ x,ks[k]?=some x:=⟨_,List.getElem?_eq_getElem (by rw [HKN.out];exact hlt)⟩
   obtain ⟨ka,kcc,hvk,hsk⟩:=HKV.out k key hkey
   have hkb1:=HKL.out key (List.mem_of_getElem? hkey)
   have HCK:Hid (∀ z,OW x9 q.obs z→z.cell? ⟨kb,ko + k,none⟩=some (.slice ka key.length kcc)):=Lib.hid fun z hz=>((HU9.out.trans (hz.up.mono HU9.out.size)).cell (p:=⟨kb,_,none⟩) hkb).trans (hkc k _ hvk)
   have HSK:Hid (∀ z,OW x9 q.obs z→Sl z ka key.length kcc key):=Lib.hid fun z hz=>hsk z (HU9.out.trans (hz.up.mono HU9.out.size))
   obtain ⟨b,oo,Ar,ec,B,d,D,qq,e,hLA,hbl,hek,hrg,hen⟩:=(HLE.out _ (Below.refl _ _)).at_ hll0
   subst hLA
   obtain ⟨b',oo',Ar',ec',B',d',D',qq',e',hLA',hbl',hek',hrg',hen'⟩:=(HLE.out _ (Below.refl _ _)).at_ (show ll - 1 < ll by omega)
   injection hLA' with hLA'
   injection hLA' with hb1 hb2 _
   subst hb1 hb2
   obtain ⟨l1,hl1⟩:∃ z,z=ll - 1:=⟨_,rfl⟩
   rw [← hl1] at hek' hrg'
   have q1:(ll:Int) - 1=(l1:Int):=by omega
   have q2:(0:Int)≤(l1:Int):=by omega
   have q3:(l1:Int) < (ll:Int):=by omega
   have q5:IntKind.i64.wrap (l1:Int)=(l1:Int):=i64_sum (by omega) (by omega)
   have q4:(0:Int) < (ll:Int):=by omega
   have HC0:Hid (∀ z,OW x9 q.obs z→z.cell? ⟨b,oo,none⟩=some (.slice Ar e.row.length ec)):=Lib.hid fun z hz=>(hz.up.cell (p:=⟨b,_,none⟩) hbl).trans (by have h:=hrg 0 _ rfl;simpa using h)
   have HC1:Hid (∀ z,OW x9 q.obs z→z.cell? ⟨b,oo + l1 * 7,none⟩=some (.slice Ar' e'.row.length ec')):=Lib.hid fun z hz=>(hz.up.cell (p:=⟨b,_,none⟩) hbl).trans (by have h:=hrg' 0 _ rfl;simpa using h)
   have HS0:Hid (∀ z,OW x9 q.obs z→Sl z Ar e.row.length ec e.row):=Lib.hid fun z hz=>(hen.later hz.up).row
   have HS1:Hid (∀ z,OW x9 q.obs z→Sl z Ar' e'.row.length ec' e'.row):=Lib.hid fun z hz=>(hen'.later hz.up).row
   have hr0:=HBE.out e (List.mem_of_getElem? hek)
   have hr1:=HBE.out e' (List.mem_of_getElem? hek')
   have HMF:Hid ((cmpB key e.row < 0∨0 < cmpB key e'.row)→mayR q.r key=false):=Lib.hid (HMN.out e e' key hek (by rw [← hl1];exact hek'))
   obtain ⟨v1',hv1⟩:∃ z,cmpB key e.row=z:=⟨_,rfl⟩
   obtain ⟨v2',hv2⟩:∃ z,cmpB key e'.row=z:=⟨_,rfl⟩
   rw [hv1,hv2] at HMF
   have HV1:=Lib.hid hv1
   have HV2:=Lib.hid hv2
   clear hkc hkb hvk hsk hkey hek hrg hen hek' hrg' hen' hl1 hbl hbl' hub hv1 hv2
   go_wp2_with fail
   by_cases g1:v1' < 0
   case pos =>
    have m1:decide (v1' < 0)=true:=decide_eq_true g1
    have HMR:Hid (mayR q.r key=false):=Lib.hid (HMF.out (.inl g1))
    refine lt_start [] (by kernel_rfl) ?_
    intro xd hd
    refine ⟨fun z=>OW x9 q.obs z,?_⟩
    have HS:=Lib.hid (HO.out.later hd)
    refine lp2 0 rfl (fun _=>HS.out) ?_
    simp only [Act.put,ls]
    refine lp2 1 rfl (fun _=>HS.out) ?_
    simp only [Act.put,ls]
    refine lp2 2 rfl (fun _=>HS.out) ?_
    simp only [Act.put,ls]
    refine lq 3 [8,9,10,11,12,13,14,15,16,17,18,19,20,21,22,23,24,25,26,27,28,29,30,31,32] rfl (yi_cell rfl rfl rfl (fun w hS=>HCK.out _ hS) Tryd.isAgg28) HS.out ?_
    simp only [Act.put,ls]
    refine lp2 4 rfl (fun _=>HS.out) ?_
    simp only [Act.put,ls]
    refine lp2 5 rfl (fun _=>HS.out) ?_
    simp only [Act.put,ls]
    refine lp2 6 rfl (fun _=>HS.out) ?_
    simp only [Act.put,ls]
    refine lq 7 [8,9,10,11,12,13,14,15,16,17,18,19,20,21,22,23,24,25,26,27,28,29,30,31,32] rfl (yi_cell rfl rfl rfl (fun w hS=>HC0.out _ hS) Tryd.isAgg28) HS.out ?_
    simp only [Act.put,ls]
    refine lt_call 8 rfl (by kernel_rfl) rfl rfl ⟨_,Tryd.func9,by decide,by kernel_rfl⟩ [.slice ka key.length kcc,.slice Ar e.row.length ec] rfl ?_
    refine (rBcmp_any key e.row ka Ar key.length kcc e.row.length ec _ (by omega) (by omega) (HSK.out _ HS.out).rb (HS0.out _ HS.out).rb).mono ?_
    rw [HV1.out]
    rintro r y1 ⟨rfl,hb⟩
    replace HS:=Lib.hid (HS.out.later hb)
    clear hb
    refine ⟨_,rfl,fun _=>HS.out,?_⟩
    simp only [Act.put,ls]
    refine lp2 9 rfl (fun _=>HS.out) ?_
    simp only [Act.put,ls]
    refine lp2 10 rfl (fun _=>HS.out) ?_
    simp only [Act.put,ls]
    refine lk 11 rfl (fun _=>HS.out) ?_
    simp only [Act.put,ls]
    refine lk 12 rfl (fun _=>HS.out) ?_
    simp only [Act.put,ls]
    refine lk 13 rfl (fun _=>HS.out) ?_
    simp only [Act.put,ls]
    refine lk 14 rfl (fun _=>HS.out) ?_
    simp only [Act.put,ls]
    refine lk 15 rfl (fun _=>HS.out) ?_
    simp only [Act.put,ls]
    refine lk 16 rfl (fun _=>HS.out) ?_
    simp only [Act.put,ls]
    refine lk 17 rfl (fun _=>HS.out) ?_
    simp only [Act.put,ls]
    refine lk 18 rfl (fun _=>HS.out) ?_
    simp only [Act.put,ls]
    refine lk 19 rfl (fun _=>HS.out) ?_
    simp only [Act.put,ls]
    refine lk 20 rfl (fun _=>HS.out) ?_
    simp only [Act.put,ls]
    refine lk 21 rfl (fun _=>HS.out) ?_
    simp only [Act.put,ls]
    refine lk 22 rfl (fun _=>HS.out) ?_
    simp only [Act.put,ls]
    refine lk 23 rfl (fun _=>HS.out) ?_
    simp only [Act.put,ls]
    refine lp2 24 rfl (fun _=>HS.out) ?_
    simp only [Act.put,ls]
    refine lp2 25 rfl (fun _=>HS.out) ?_
    simp only [Act.put,ls]
    refine lp2 26 rfl (fun _=>HS.out) ?_
    simp only [Act.put,ls]
    refine lp2 27 rfl (fun _=>HS.out) ?_
    simp only [Act.put,ls]
    refine lp2 28 rfl (fun _=>HS.out) ?_
    simp only [Act.put,ls]
    refine lp2 29 rfl (fun _=>HS.out) ?_
    simp only [Act.put,ls]
    refine lq 30 [31,32] rfl (yi_cell rfl rfl rfl (fun w hS=>HCK.out _ hS) Tryd.isAgg28) HS.out ?_
    simp only [Act.put,ls]
    refine lt_call 31 rfl (by kernel_rfl) rfl rfl ⟨_,Tryd.func8,by decide,by kernel_rfl⟩ [.pointer (some ⟨q.g,0,none⟩),.slice ka key.length kcc] rfl ?_
    refine (may_any q _ (RunAt.of HQ.out.2.ok HS.out (List.Sublist.refl _)) HQ.out.2 key ka _ kcc (HSK.out _ HS.out)).mono ?_
    rw [HMR.out]
    rintro r y3 ⟨rfl,hb⟩
    replace HS:=Lib.hid (HS.out.later hb)
    clear hb
    refine ⟨_,rfl,fun _=>HS.out,?_⟩
    simp only [Act.put,ls]
    refine lp2 32 rfl (fun _=>HS.out) ?_
    simp only [Act.put,ls]
    refine lt_done (by kernel_rfl) ?_
    replace HO:=HS
    clear HS
    go_wp2_with fail
    go_roundw
    case rel=>exact ⟨k + 1,by omega,by go_num,HO⟩
    case measure=>simp [intOf];omega
   have m1:decide (v1' < 0)=false:=decide_eq_false g1
   by_cases g2:0 < v2'
   case pos =>
    have m2:decide (v2' > 0)=true:=decide_eq_true g2
    have m3:decide (0 < v2')=true:=decide_eq_true g2
    have HMR:Hid (mayR q.r key=false):=Lib.hid (HMF.out (.inr g2))
    refine lt_start [] (by kernel_rfl) ?_
    intro xd hd
    refine ⟨fun z=>OW x9 q.obs z,?_⟩
    have HS:=Lib.hid (HO.out.later hd)
    refine lp2 0 rfl (fun _=>HS.out) ?_
    simp only [Act.put,ls]
    refine lp2 1 rfl (fun _=>HS.out) ?_
    simp only [Act.put,ls]
    refine lp2 2 rfl (fun _=>HS.out) ?_
    simp only [Act.put,ls]
    refine lq 3 [8,9,10,11,12,13,14,15,16,17,18,19,20,21,22,23,24,25,26,27,28,29,30,31,32] rfl (yi_cell rfl rfl rfl (fun w hS=>HCK.out _ hS) Tryd.isAgg28) HS.out ?_
    simp only [Act.put,ls]
    refine lp2 4 rfl (fun _=>HS.out) ?_
    simp only [Act.put,ls]
    refine lp2 5 rfl (fun _=>HS.out) ?_
    simp only [Act.put,ls]
    refine lp2 6 rfl (fun _=>HS.out) ?_
    simp only [Act.put,ls]
    refine lq 7 [8,9,10,11,12,13,14,15,16,17,18,19,20,21,22,23,24,25,26,27,28,29,30,31,32] rfl (yi_cell rfl rfl rfl (fun w hS=>HC0.out _ hS) Tryd.isAgg28) HS.out ?_
    simp only [Act.put,ls]
    refine lt_call 8 rfl (by kernel_rfl) rfl rfl ⟨_,Tryd.func9,by decide,by kernel_rfl⟩ [.slice ka key.length kcc,.slice Ar e.row.length ec] rfl ?_
    refine (rBcmp_any key e.row ka Ar key.length kcc e.row.length ec _ (by omega) (by omega) (HSK.out _ HS.out).rb (HS0.out _ HS.out).rb).mono ?_
    rw [HV1.out]
    rintro r y1 ⟨rfl,hb⟩
    replace HS:=Lib.hid (HS.out.later hb)
    clear hb
    refine ⟨_,rfl,fun _=>HS.out,?_⟩
    simp only [Act.put,ls]
    refine lp2 9 rfl (fun _=>HS.out) ?_
    simp only [Act.put,ls]
    refine lp2 10 rfl (fun _=>HS.out) ?_
    simp only [Act.put,ls]
    refine lp2 11 rfl (fun _=>HS.out) ?_
    simp only [Act.put,ls]
    refine lp2 12 rfl (fun _=>HS.out) ?_
    simp only [Act.put,ls]
    refine lp2 13 rfl (fun _=>HS.out) ?_
    simp only [Act.put,ls]
    refine lq 14 [22,23,24,25,26,27,28,29,30,31,32] rfl (yi_cell rfl rfl rfl (fun w hS=>HCK.out _ hS) Tryd.isAgg28) HS.out ?_
    simp only [Act.put,ls]
    refine lp2 15 rfl (fun _=>HS.out) ?_
    simp only [Act.put,ls]
    refine lp2 16 rfl (fun _=>HS.out) ?_
    simp only [Act.put,ls]
    refine lp2 17 rfl (fun _=>HS.out) ?_
    simp only [Act.put,ls]
    refine lp2 18 rfl (fun _=>HS.out) ?_
    simp only [Act.put,ls]
    refine lp2 19 rfl (fun _=>HS.out) ?_
    simp only [Act.put,ls]
    refine lp2 20 rfl (fun _=>HS.out) ?_
    simp only [Act.put,ls]
    refine lq 21 [22,23,24,25,26,27,28,29,30,31,32] rfl (yi_cell rfl rfl rfl (fun w hS=>HC1.out _ hS) Tryd.isAgg28) HS.out ?_
    simp only [Act.put,ls]
    refine lt_call 22 rfl (by kernel_rfl) rfl rfl ⟨_,Tryd.func9,by decide,by kernel_rfl⟩ [.slice ka key.length kcc,.slice Ar' e'.row.length ec'] rfl ?_
    refine (rBcmp_any key e'.row ka Ar' key.length kcc e'.row.length ec' _ (by omega) (by omega) (HSK.out _ HS.out).rb (HS1.out _ HS.out).rb).mono ?_
    rw [HV2.out]
    rintro r y2 ⟨rfl,hb⟩
    replace HS:=Lib.hid (HS.out.later hb)
    clear hb
    refine ⟨_,rfl,fun _=>HS.out,?_⟩
    simp only [Act.put,ls]
    refine lp2 23 rfl (fun _=>HS.out) ?_
    simp only [Act.put,ls]
    refine lp2 24 rfl (fun _=>HS.out) ?_
    simp only [Act.put,ls]
    refine lp2 25 rfl (fun _=>HS.out) ?_
    simp only [Act.put,ls]
    refine lp2 26 rfl (fun _=>HS.out) ?_
    simp only [Act.put,ls]
    refine lp2 27 rfl (fun _=>HS.out) ?_
    simp only [Act.put,ls]
    refine lp2 28 rfl (fun _=>HS.out) ?_
    simp only [Act.put,ls]
    refine lp2 29 rfl (fun _=>HS.out) ?_
    simp only [Act.put,ls]
    refine lq 30 [31,32] rfl (yi_cell rfl rfl rfl (fun w hS=>HCK.out _ hS) Tryd.isAgg28) HS.out ?_
    simp only [Act.put,ls]
    refine lt_call 31 rfl (by kernel_rfl) rfl rfl ⟨_,Tryd.func8,by decide,by kernel_rfl⟩ [.pointer (some ⟨q.g,0,none⟩),.slice ka key.length kcc] rfl ?_
    refine (may_any q _ (RunAt.of HQ.out.2.ok HS.out (List.Sublist.refl _)) HQ.out.2 key ka _ kcc (HSK.out _ HS.out)).mono ?_
    rw [HMR.out]
    rintro r y3 ⟨rfl,hb⟩
    replace HS:=Lib.hid (HS.out.later hb)
    clear hb
    refine ⟨_,rfl,fun _=>HS.out,?_⟩
    simp only [Act.put,ls]
    refine lp2 32 rfl (fun _=>HS.out) ?_
    simp only [Act.put,ls]
    refine lt_done (by kernel_rfl) ?_
    replace HO:=HS
    clear HS
    go_wp2_with fail
    go_roundw
    case rel=>exact ⟨k + 1,by omega,by go_num,HO⟩
    case measure=>simp [intOf];omega
   have m2:decide (v2' > 0)=false:=decide_eq_false g2
   have m3:decide (0 < v2')=false:=decide_eq_false g2
   refine lt_start [] (by kernel_rfl) ?_
   intro xd hd
   refine ⟨fun z=>OW x9 q.obs z,?_⟩
   have HS:=Lib.hid (HO.out.later hd)
   refine lp2 0 rfl (fun _=>HS.out) ?_
   simp only [Act.put,ls]
   refine lp2 1 rfl (fun _=>HS.out) ?_
   simp only [Act.put,ls]
   refine lp2 2 rfl (fun _=>HS.out) ?_
   simp only [Act.put,ls]
   refine lq 3 [8,9,10,11,12,13,14,15,16,17,18,19,20,21,22,23,24,25,26,27,28,29,30,31,32] rfl (yi_cell rfl rfl rfl (fun w hS=>HCK.out _ hS) Tryd.isAgg28) HS.out ?_
   simp only [Act.put,ls]
   refine lp2 4 rfl (fun _=>HS.out) ?_
   simp only [Act.put,ls]
   refine lp2 5 rfl (fun _=>HS.out) ?_
   simp only [Act.put,ls]
   refine lp2 6 rfl (fun _=>HS.out) ?_
   simp only [Act.put,ls]
   refine lq 7 [8,9,10,11,12,13,14,15,16,17,18,19,20,21,22,23,24,25,26,27,28,29,30,31,32] rfl (yi_cell rfl rfl rfl (fun w hS=>HC0.out _ hS) Tryd.isAgg28) HS.out ?_
   simp only [Act.put,ls]
   refine lt_call 8 rfl (by kernel_rfl) rfl rfl ⟨_,Tryd.func9,by decide,by kernel_rfl⟩ [.slice ka key.length kcc,.slice Ar e.row.length ec] rfl ?_
   refine (rBcmp_any key e.row ka Ar key.length kcc e.row.length ec _ (by omega) (by omega) (HSK.out _ HS.out).rb (HS0.out _ HS.out).rb).mono ?_
   rw [HV1.out]
   rintro r y1 ⟨rfl,hb⟩
   replace HS:=Lib.hid (HS.out.later hb)
   clear hb
   refine ⟨_,rfl,fun _=>HS.out,?_⟩
   simp only [Act.put,ls]
   refine lp2 9 rfl (fun _=>HS.out) ?_
   simp only [Act.put,ls]
   refine lp2 10 rfl (fun _=>HS.out) ?_
   simp only [Act.put,ls]
   refine lp2 11 rfl (fun _=>HS.out) ?_
   simp only [Act.put,ls]
   refine lp2 12 rfl (fun _=>HS.out) ?_
   simp only [Act.put,ls]
   refine lp2 13 rfl (fun _=>HS.out) ?_
   simp only [Act.put,ls]
   refine lq 14 [22,23,24,25,26,27,28,29,30,31,32] rfl (yi_cell rfl rfl rfl (fun w hS=>HCK.out _ hS) Tryd.isAgg28) HS.out ?_
   simp only [Act.put,ls]
   refine lp2 15 rfl (fun _=>HS.out) ?_
   simp only [Act.put,ls]
   refine lp2 16 rfl (fun _=>HS.out) ?_
   simp only [Act.put,ls]
   refine lp2 17 rfl (fun _=>HS.out) ?_
   simp only [Act.put,ls]
   refine lp2 18 rfl (fun _=>HS.out) ?_
   simp only [Act.put,ls]
   refine lp2 19 rfl (fun _=>HS.out) ?_
   simp only [Act.put,ls]
   refine lp2 20 rfl (fun _=>HS.out) ?_
   simp only [Act.put,ls]
   refine lq 21 [22,23,24,25,26,27,28,29,30,31,32] rfl (yi_cell rfl rfl rfl (fun w hS=>HC1.out _ hS) Tryd.isAgg28) HS.out ?_
   simp only [Act.put,ls]
   refine lt_call 22 rfl (by kernel_rfl) rfl rfl ⟨_,Tryd.func9,by decide,by kernel_rfl⟩ [.slice ka key.length kcc,.slice Ar' e'.row.length ec'] rfl ?_
   refine (rBcmp_any key e'.row ka Ar' key.length kcc e'.row.length ec' _ (by omega) (by omega) (HSK.out _ HS.out).rb (HS1.out _ HS.out).rb).mono ?_
   rw [HV2.out]
   rintro r y2 ⟨rfl,hb⟩
   replace HS:=Lib.hid (HS.out.later hb)
   clear hb
   refine ⟨_,rfl,fun _=>HS.out,?_⟩
   simp only [Act.put,ls]
   refine lp2 23 rfl (fun _=>HS.out) ?_
   simp only [Act.put,ls]
   refine lp2 24 rfl (fun _=>HS.out) ?_
   simp only [Act.put,ls]
   refine lp2 25 rfl (fun _=>HS.out) ?_
   simp only [Act.put,ls]
   refine lk 26 rfl (fun _=>HS.out) ?_
   simp only [Act.put,ls]
   refine lk 27 rfl (fun _=>HS.out) ?_
   simp only [Act.put,ls]
   refine lk 28 rfl (fun _=>HS.out) ?_
   simp only [Act.put,ls]
   refine lk 29 rfl (fun _=>HS.out) ?_
   simp only [Act.put,ls]
   refine lk 30 rfl (fun _=>HS.out) ?_
   simp only [Act.put,ls]
   refine lk 31 rfl (fun _=>HS.out) ?_
   simp only [Act.put,ls]
   refine lp2 32 rfl (fun _=>HS.out) ?_
   simp only [Act.put,ls]
   refine lt_done (by kernel_rfl) ?_
   replace HO:=HS
   clear HS
   go_wp2_with fail
   go_roundw
   case rel=>exact ⟨k + 1,by omega,by go_num,HO⟩
   case measure=>simp [intOf];omega
end Go.Proofs.YtfdbcfaeiglbeaaDoor
