/-
 Layer 7: RunSeeks. (Printed by gen_runk2.py.)
-/
import Derived.Test.YtfdbcfaeiglbeaaGreatDoorRXS
import Derived.Test.YtfdbcfaeiglbeaaGreatDoorRZN
namespace Go.Proofs.YtfdbcfaeiglbeaaGreatDoor
open Go.RowKit
theorem first_chk9:checkE firstE=0:=by decide +kernel
theorem insE_ge (m:List Ent) (e:Ent):m.length≤(insE m e).length:=by
 unfold insE
 split
 ·omega
 ·rw [List.length_append,List.length_cons,List.length_take,List.length_drop];omega
theorem ordStep_ge (ix:Int) (m:List Ent) (e:Ent):m.length≤(ordStep ix m e).length:=by
 unfold ordStep
 split
 ·omega
 ·exact insE_ge m e
theorem fold_ge (ix:Int):∀ (es m:List Ent),m.length≤(es.foldl (ordStep ix) m).length
 | [],_=>Nat.le_refl _
 | e::es,m=>Nat.le_trans (ordStep_ge ix m e) (fold_ge ix es _)
theorem ordL_ne {ix:Int} (hi:33≤16 * ix + 15) (es:List Ent):ordL ix ((firstE::es).take 120) ≠ []:=fun h=>by
 have h1:=fold_ge ix (es.take 119) (ordStep ix [] firstE)
 have h2:ordL ix ((firstE::es).take 120)=(es.take 119).foldl (ordStep ix) (ordStep ix [] firstE):=by
  rw [List.take_succ_cons];rfl
 have h3:ordStep ix [] firstE=insE [] firstE:=by
  unfold ordStep
  rw [if_neg]
  rintro (h | h)
  ·exact h first_chk9
  ·have h:16 * ix + 15 < 33:=h
   omega
 have h4:(insE [] firstE).length=1:=by decide +kernel
 rw [← h2,h,h3,h4] at h1
 exact absurd h1 (by decide)
theorem first_len {es:List Ent} (h:∀ e,e ∈ es→e.row.length≤1048576∧e.qual.length≤1048576∧e.val.length≤1048576):∀ e,e ∈ firstE::es→e.row.length≤140737488355000∧e.qual.length≤140737488355000∧e.val.length≤140737488355000:=fun e he=>by
 rcases List.mem_cons.1 he with rfl | he
 ·exact ⟨by decide,by decide,by decide⟩
 ·obtain ⟨h1,h2,h3⟩:=h e he
  exact ⟨by omega,by omega,by omega⟩
theorem cells7_one (rs:List ER):∀ u ∈ rs.flatMap ER.cells,u.oneCell'=true:=fun u hu=>by
 obtain ⟨r,_,h⟩:=List.mem_flatMap.1 hu
 simp only [ER.cells,List.mem_cons,List.not_mem_nil,or_false] at h
 rcases h with rfl | rfl | rfl | rfl | rfl | rfl | rfl <;> rfl
theorem runC_ne (o:OptR) (L:List Ent):0 < (runBy o L).length:=by
 have h:runBy o L=magR ++ (blocksR (cutR o.block.toNat [] L) ++ (sumdB (filtR o L) ++ (sumdB (indexR (cutR o.block.toNat [] L)) ++ frameB (risBs (numsR o L (cutR o.block.toNat [] L)))))):=by
  unfold runBy runC headR;simp only [List.append_assoc]
 rw [h,List.length_append]
 show 0 < 8 + _
 omega
theorem first_ens {w x:World} {A8 FA FB FD:Option Addr} {n c8:Nat} {rs0:List ER} {es:List Ent} (h:OW w [rowO 60 7 (.slice A8 (1 + n) c8) (1 + n) ([.slice FA 1 1,.int .i64 0,.slice FB 1 1,.int .i64 7,.int .i64 33,.int .i64 1,.slice FD 1 1] ++ rs0.flatMap ER.cells)] x) (hf:En x FA 1 1 FB 1 1 FD 1 1 firstE) (hr:∀ r,r ∈ rs0→r.En x) (hs:rs0.map ER.e=es):Ens x A8 (1 + n) (firstE::es):=by
 have h2:=h.ens (rs:=⟨FA,1,FB,1,FD,1,firstE⟩::rs0) (i:=0) rfl (fun r h1=>by
  rcases List.mem_cons.1 h1 with rfl | h1
  ·exact hf
  ·exact hr r h1)
 rw [List.map_cons,hs] at h2
 exact h2
def kN (t:Ent):List Ent→Nat
 | []=>0
 | a::L=>if cmpE a t < 0 then kN t L + 1 else 0
theorem kN_le (t:Ent):∀ L:List Ent,kN t L≤L.length
 | []=>Nat.le_refl _
 | a::L=>by
  have h:=kN_le t L
  show (if cmpE a t < 0 then kN t L + 1 else 0)≤L.length + 1
  split <;> omega
theorem kN_lt {t:Ent}:∀ {L:List Ent} {j:Nat} {x:Ent},L[j]?=some x→j < kN t L→cmpE x t < 0
 | [],_,_,h,_=>by cases h
 | a::L,j,x,h,hj=>by
  have hj:j < (if cmpE a t < 0 then kN t L + 1 else 0):=hj
  by_cases ha:cmpE a t < 0
  ·rw [if_pos ha] at hj
   cases j with
   | zero=>injection h with h;subst h;exact ha
   | succ j=>exact kN_lt (L:=L) h (by omega)
  ·rw [if_neg ha] at hj;omega
theorem kN_at {t:Ent}:∀ {L:List Ent} {x:Ent},L[kN t L]?=some x→¬ cmpE x t < 0
 | [],_,h=>by cases h
 | a::L,x,h=>by
  have h:(a::L)[if cmpE a t < 0 then kN t L + 1 else 0]?=some x:=h
  by_cases ha:cmpE a t < 0
  ·rw [if_pos ha] at h
   exact kN_at (L:=L) h
  ·rw [if_neg ha] at h
   injection h with h
   subst h;exact ha
theorem kN_drop (t:Ent):∀ L:List Ent,skipE t L=L.drop (kN t L)
 | []=>rfl
 | a::L=>by
  show (a::L).dropWhile (fun x=>decide (cmpE x t < 0))=(a::L).drop (if cmpE a t < 0 then kN t L + 1 else 0)
  rw [List.dropWhile_cons]
  by_cases ha:cmpE a t < 0
  ·rw [if_pos (decide_eq_true ha),if_pos ha]
   exact kN_drop t L
  ·rw [if_neg (by simpa using ha),if_neg ha];rfl
theorem Ens.dropAt {w:World} {b o n:Nat} {L:List Ent} (h:Ens w (some ⟨b,o,none⟩) n L) {K:Nat} (hK:K≤n):Ens w (some ⟨b,o + K * 7,none⟩) (n - K) (L.drop K):=by
 obtain ⟨rs,rfl,hr,hE⟩:=h
 have hl:=hr.1
 rw [flat7_len] at hl
 refine ⟨rs.drop K,by rw [List.map_drop],⟨by rw [flat7_len,List.length_drop];omega,fun h0=>?_⟩,fun r hr'=>hE r (List.mem_of_mem_drop hr')⟩
 obtain ⟨b',o',hA,hb,hc⟩:=hr.2 (by omega)
 injection hA with hA
 injection hA with h1 h2 _
 subst h1 h2
 refine ⟨b,o + K * 7,rfl,hb,fun j u hu=>?_⟩
 rw [← flat7_drop,List.getElem?_drop] at hu
 have h3:=hc (K * 7 + j) u hu
 rwa [← Nat.add_assoc] at h3
set_option maxRecDepth 1000000 in
set_option maxHeartbeats 16000000 in
theorem seeksL_any (oa:OptR) (es:List Ent) (A:Option Addr) (n c:Nat) (ts:List Ent) (TA:Option Addr) (tn tc:Nat) (w:World) (hes:Ens w A n es) (hn:n≤1048576)
  (hel:∀ e,e ∈ es→e.row.length≤1048576∧e.qual.length≤1048576∧e.val.length≤1048576) (ht:TabAt 0 w) (hts:Ens w TA tn ts) (htl:∀ e,e ∈ ts→e.row.length≤1048576∧e.qual.length≤1048576∧e.val.length≤1048576) :
  Calls Tryz.prog 5 #[optV oa,.slice A n c,.slice TA tn tc] w fun e z=>e = .returned (.bool true)∧Below w.heap.size w z:=by
 have HTS:Hid (∀ z,Below w.heap.size w z→Ens z TA tn ts):=Lib.hid fun z hz=>hts.later hz
 have HTL:=Lib.hid htl
 clear hts htl
 obtain ⟨rs0,hrs0,hrd0,hen0⟩:=hes
 have HRD:Hid (∀ z,Below w.heap.size w z→Reads z w.heap.size 7 A n (rs0.flatMap ER.cells)):=Lib.hid fun z hz=>hrd0.below hz
 have HEN:Hid (∀ z,Below w.heap.size w z→∀ r,r ∈ rs0→r.En z):=Lib.hid fun z hz r hr=>(hen0 r hr).later hz
 have HRS:=Lib.hid hrs0
 have HTB:Hid (∀ z,Below w.heap.size w z→TabAt 0 z):=Lib.hid fun z hz=>ht.later hz
 have HFL:Hid (∀ e,e ∈ firstE::es→e.row.length≤140737488355000∧e.qual.length≤140737488355000∧e.val.length≤140737488355000):=Lib.hid (first_len hel)
 obtain ⟨v0,v1,v2,v3,v4,hv⟩:∃ v0 v1 v2 v3 v4,optF oa=⟨v0,v1,v2,v3,v4⟩:=⟨_,_,_,_,_,rfl⟩
 have HOA:Hid (optV (optF oa) = .agg #[.int .i64 v0,.int .i64 v1,.int .i64 v2,.int .i64 v3,.int .i64 v4]):=Lib.hid (by rw [hv];rfl)
 have HKA:Hid (optOk ⟨v0,v1,1099511627776,v3,v4⟩=true):=Lib.hid (by have h:=optX_ok oa;unfold optX at h;rw [hv] at h;exact h)
 obtain ⟨L,hL⟩:∃ L,L=ordL 1099511627776 ((firstE::es).take 120):=⟨_,rfl⟩
 have HL:=Lib.hid hL.symm
 have HLN:Hid (L ≠ []):=Lib.hid (by rw [hL];exact ordL_ne (by decide) es)
 have HOL:Hid (OrdOk 1099511627776 L):=Lib.hid (by rw [hL];exact ord_ok _ _)
 have HL1:Hid (L.length≤120):=Lib.hid (by rw [hL];exact Nat.le_trans (ord_len _ _) (by rw [List.length_take];omega))
 have HRA:Hid (refuseR ⟨v0,v1,1099511627776,v3,v4⟩ L=0):=Lib.hid (refuse_of HKA.out HLN.out HOL.out)
 have HSA:Hid ((runBy ⟨v0,v1,1099511627776,v3,v4⟩ L).length≤16777216):=Lib.hid (run_small HRA.out (by have:=HL1.out;omega))
 obtain ⟨xb,hxb⟩:∃ x,x=runBy ⟨v0,v1,1099511627776,v3,v4⟩ L:=⟨_,rfl⟩
 have HXB:=Lib.hid hxb.symm
 have HXP:Hid (0 < xb.length∧xb.length≤16777216):=Lib.hid (by rw [hxb];exact ⟨runC_ne _ _,HSA.out⟩)
 have HX:=Lib.hid (OW.nil w)
 clear hrd0 hen0 hrs0 hel ht hv hL hxb
 unfold optV
 go_enter Tryz.func5,Tryz.ntmps5
 go_wp2_with (first
  | (refine wl_box rfl (.tmp 0) rfl [.int .i64 oa.block,.int .i64 oa.bits,.int .i64 oa.index,.int .i64 oa.low,.int .i64 oa.clock] rfl HX.out ?_;intro g1 x1 hz _;have HX1:Hid (OW w [boxO g1 [.int .i64 oa.block,.int .i64 oa.bits,.int .i64 oa.index,.int .i64 oa.low,.int .i64 oa.clock]] x1):=Lib.hid hz;clear hz HX)
  | (refine wl_rowR rfl 23 (.tmp 3) rfl rfl (HX1.out.range (i:=0) rfl) opts_row ?_)
  | (go_at_call 25;go_must (refine (options_any oa _).mono ?_);rw [HOA.out];rintro e x2 ⟨rfl,hb⟩;have HX2:=Lib.hid (HX1.out.later hb);clear hb HX1)
  | (refine wl_alloc rfl rfl [.int .i64 0,.int .i64 0,.int .i64 0,.int .i64 0,.int .i64 0] (.inl (by kernel_rfl)) HX2.out ?_;intro g2 x3 hz _;have HX3:Hid (OW w [boxO g1 [.int .i64 oa.block,.int .i64 oa.bits,.int .i64 oa.index,.int .i64 oa.low,.int .i64 oa.clock],boxO g2 [.int .i64 0,.int .i64 0,.int .i64 0,.int .i64 0,.int .i64 0]] x3):=Lib.hid hz;clear hz HX2)
  | (refine wl_put rfl (.tmp 7) (.tmp 16) rfl HX3.out 1 rfl rfl [.int .i64 v0,.int .i64 v1,.int .i64 v2,.int .i64 v3,.int .i64 v4] rfl rfl (by kernel_rfl) (by simp [Value.oneCell']) ?_;intro x4 hz _;have HX5:Hid (OW w [boxO g1 [.int .i64 oa.block,.int .i64 oa.bits,.int .i64 oa.index,.int .i64 oa.low,.int .i64 oa.clock],boxO g2 [.int .i64 v0,.int .i64 v1,.int .i64 v2,.int .i64 v3,.int .i64 v4]] x4):=Lib.hid hz;clear hz HX3))
 go_upto_region 3 with (first
  | (go_at_call 39;go_must (refine (first_any _).mono ?_);rintro e x6 ⟨FA,FB,FD,rfl,hen,hb⟩;have HFE:Hid (∀ z,Below x6.heap.size x6 z→En z FA 1 1 FB 1 1 FD 1 1 firstE):=Lib.hid fun z hz=>hen.later hz;have HX6:=Lib.hid (HX5.out.later hb);have HN6:=Lib.hid (OW.nil x6);clear hen hb HX5)
  | (refine wl_build rfl #[(0,.tmp 17)] rfl #[.slice FA 1 1,.int .i64 0,.slice FB 1 1,.int .i64 7,.int .i64 33,.int .i64 1,.slice FD 1 1] Tryz.entsS (.agg #[.slice none 0 0,.int .i64 0,.slice none 0 0,.int .i64 0,.int .i64 0,.int .i64 0,.slice none 0 0]) (by kernel_rfl) (by decide) (by decide) (by decide) rfl (by first | rfl | kernel_rfl) HN6.out ?_;intro g7 x7 hz _;have HR7:Hid (OW x6 [rowO 60 7 (.slice (some ⟨g7,0,none⟩) 1 1) 1 [.slice FA 1 1,.int .i64 0,.slice FB 1 1,.int .i64 7,.int .i64 33,.int .i64 1,.slice FD 1 1]] x7):=Lib.hid hz;clear hz HN6)
  | (at_builtin;go_must (refine wl_append rfl (.tmp 18) (.tmp 19) rfl Tryz.entsS HR7.out 0 rfl rfl _ A n c (rs0.flatMap ER.cells) rfl (HRD.out _ (HX6.out.later HR7.out.up).up) (cells7_one rs0) (by unfold maxLen;omega) (by omega) ?_);intro A8 c8 x8 hz _;have HR8:Hid (OW x6 [rowO 60 7 (.slice A8 (1 + n) c8) (1 + n) ([.slice FA 1 1,.int .i64 0,.slice FB 1 1,.int .i64 7,.int .i64 33,.int .i64 1,.slice FD 1 1] ++ rs0.flatMap ER.cells)] x8):=Lib.hid hz;have HX8:=Lib.hid (HX6.out.later hz.up);have HG2:Hid (g2 < x8.heap.size):=Lib.hid (HX8.out.box (i:=1) rfl).2.1;clear hz HR7 HX6)
  | (go_at_call 38;go_must (refine (ordered7_new 1099511627776 (by decide) (firstE::es) A8 (1 + n) c8 _ (first_ens HR8.out (HFE.out _ HR8.out.up) (HEN.out _ HX8.out.up) HRS.out) HFL.out).mono ?_);rw [HL.out];rintro e x9 ⟨LA,lc,ll,rfl,hll,hEN,hb⟩;have HLN9:=Lib.hid hEN;have HLL:Hid (L.length=ll):=Lib.hid hEN.1.len;have HX9:Hid (OW w [boxO g1 [.int .i64 oa.block,.int .i64 oa.bits,.int .i64 oa.index,.int .i64 oa.low,.int .i64 oa.clock],boxO g2 [.int .i64 v0,.int .i64 v1,.int .i64 v2,.int .i64 v3,.int .i64 v4]] x9):=Lib.hid (HX8.out.later hb);clear hEN hb HR8 HFE HX8))
 go_upto_region 4 with (refine wl_put1 rfl (.tmp 22) (.const (.int .i64 1099511627776)) rfl HX9.out 1 rfl 2 rfl (by simp) _ rfl (by kernel_rfl) rfl ?_;intro x10 hz hc;have HX10:Hid (OW w [boxO g1 [.int .i64 oa.block,.int .i64 oa.bits,.int .i64 oa.index,.int .i64 oa.low,.int .i64 oa.clock],boxO g2 [.int .i64 v0,.int .i64 v1,.int .i64 1099511627776,.int .i64 v3,.int .i64 v4]] x10):=Lib.hid hz;have HLE0:Hid (Ens x10 LA ll L):=Lib.hid (HLN9.out.2 _ _ hc fun b hb=>by have h1:b=g2:=hb;rw [h1];exact HG2.out);clear hz hc HX9)
 go_upto_region 5 with (first
  | (refine wl_rowR rfl 23 (.tmp 7) rfl rfl (HX10.out.range (i:=1) rfl) opts_row ?_)
  | (go_at_call 27;go_must (refine (made_yes ⟨v0,v1,1099511627776,v3,v4⟩ L LA ll lc _ HLE0.out (by omega) HRA.out HSA.out (HTB.out _ HX10.out.up)).mono ?_);rw [HXB.out];rintro e x11 ⟨q,XA,xm,xcp,hq1,hq2,_,rfl,hz⟩;have HQ:=Lib.hid (And.intro hq1 hq2);have HO0:Hid (OW x10 q.obs x11):=Lib.hid (OW.right (os:=[bytO 5 (XA,xcp,xb)]) hz);clear hq1 hq2 hz))
 have HU10:=Lib.hid HX10.out.up
 have HLE:Hid (∀ z,Below x10.heap.size x10 z→Ens z LA ll L):=Lib.hid fun z hz=>HLE0.out.later hz
 have HSK:Hid (∀ t,seekF q.r t q.r.ps=(L.drop (kN t L),true)):=Lib.hid fun t=>by
  have h:=(written_tells HRA.out (by have:=HL1.out;omega)).2.1 t
  rw [HQ.out.1,h,← skip_filter HOL.out.asc,kN_drop]
 have hll0:0 < ll:=by
  rw [← HLL.out];exact List.length_pos_iff.2 HLN.out
 have hll1:ll≤120:=hll.1
 have hllc:ll≤lc:=hll.2
 have HKL:Hid (∀ t,kN t L≤ll):=Lib.hid fun t=>by rw [← HLL.out];exact kN_le t L
 obtain ⟨lb,lo,hLA⟩:∃ lb lo,LA=some (⟨lb,lo,none⟩:Addr):=by
  obtain ⟨lb,lo,_,_,_,_,_,_,_,h,_⟩:=(HLE.out _ (Below.refl _ _)).at_ hll0
  exact ⟨lb,lo,h⟩
 subst hLA
 obtain ⟨ek,hek⟩:∃ k:Int,k=endK true:=⟨_,rfl⟩
 have m2:(ek != 0)=false:=by rw [hek];rfl
 have HEK:=Lib.hid hek.symm
 clear hek HX10 HLE0 HLN HXP HSA
 go_wp2_with fail
 go_loopw [11,12,13,14] (fun iv _ _ _ wr=>∃ i:Nat,i≤tn∧i≤20∧iv = .int .i64 i∧Hid (OW x10 q.obs wr)) (fun iv _ _ _ _=>20 - (intOf iv).toNat)
 case atStart=>exact ⟨0,Nat.zero_le _,by omega,rfl,HO0⟩
 case round =>
  clear HO0
  obtain ⟨i,hin,hi20,rfl,HO⟩:=hrel
  by_cases hgo:i < tn∧i < 20
  case neg =>
   by_cases hlt:i < tn
   ·have hd:decide ((i:Int) < (tn:Int))=true:=decide_eq_true (by omega)
    have hd2:decide ((i:Int) < 20)=false:=decide_eq_false (by omega)
    have hd3:¬ i < 20:=by omega
    clear hgo
    go_wp2_with fail
    go_ret
    exact ⟨rfl,HU10.out.trans (HO.out.up.mono HU10.out.size)⟩
   ·have hd:decide ((i:Int) < (tn:Int))=false:=decide_eq_false (by omega)
    clear hgo
    go_wp2_with fail
    go_ret
    exact ⟨rfl,HU10.out.trans (HO.out.up.mono HU10.out.size)⟩
  obtain ⟨hlt,hlt20⟩:=hgo
  have hd:decide ((i:Int) < (tn:Int))=true:=decide_eq_true (by omega)
  have hd2:decide ((i:Int) < 20)=true:=decide_eq_true (by omega)
  have j0:(0:Int)≤(i:Int):=by omega
  have j1:(i:Int) < (tn:Int):=by omega
  obtain ⟨tb,to',tA,tcc,tB,td,tD,tq,t,hTA,htb,htk,htr,hte⟩:=(HTS.out w (Below.refl _ _)).at_ hlt
  subst hTA
  have HRT:Hid (∀ z,OW x10 q.obs z→z.rangeAt tb (to' + i * 7) [.slice tA t.row.length tcc,.int .i64 t.fam,.slice tB t.qual.length td,.int .i64 t.ts,.int .i64 t.seq,.int .i64 t.kind,.slice tD t.val.length tq]):=Lib.hid fun z hz j v hj=>((HU10.out.trans (hz.up.mono HU10.out.size)).cell (p:=⟨tb,_,none⟩) htb).trans (htr j v hj)
  have HET:Hid (∀ z,OW x10 q.obs z→En z tA t.row.length tcc tB t.qual.length td tD t.val.length tq t):=Lib.hid fun z hz=>hte.later (HU10.out.trans (hz.up.mono HU10.out.size))
  have HTN:=Lib.hid (HTL.out t (List.mem_of_getElem? htk))
  obtain ⟨K,hK⟩:∃ K,K=kN t L:=⟨_,rfl⟩
  have hKl:K≤ll:=by rw [hK];exact HKL.out t
  have HKA:Hid (∀ j x,L[j]?=some x→j < K→cmpE x t < 0):=Lib.hid fun j x hj hk=>kN_lt hj (by rw [← hK];exact hk)
  have HKB:Hid (∀ x,L[K]?=some x→¬ cmpE x t < 0):=Lib.hid fun x hx=>kN_at (by rw [← hK];exact hx)
  have HST:Hid (seekF q.r t q.r.ps=(L.drop K,true)):=Lib.hid (by rw [hK];exact HSK.out t)
  have HDL:Hid ((L.drop K).length=ll - K):=Lib.hid (by rw [List.length_drop,HLL.out])
  clear htb htk htr hte hK
  obtain ⟨wp,rfl⟩:∃ z:World,z=wr:=⟨_,rfl⟩
  go_wp2_with fail
  go_loopw [12] (fun kv wr=>∃ k:Nat,k≤K∧kv = .int .i64 k∧Hid (OW x10 q.obs wr)) (fun kv _=>ll - (intOf kv).toNat)
  case atStart=>exact ⟨0,Nat.zero_le _,rfl,HO⟩
  case round =>
   clear HO
   obtain ⟨k,hkK,rfl,HO⟩:=hrel
   by_cases hlk:k < K
   case pos =>
    have hkl:k < ll:=by omega
    have hdk:decide ((k:Int) < (ll:Int))=true:=decide_eq_true (by omega)
    have i0:(0:Int)≤(k:Int):=by omega
    have i1:(k:Int) < (ll:Int):=by omega
    obtain ⟨b,oo,Ar,ec,B,d,D,qq,e,hLA,hbl,hek,hrg,hen⟩:=(HLE.out _ (Below.refl _ _)).at_ hkl
    injection hLA with hLA
    injection hLA with hb1 hb2 _
    subst hb1 hb2
    have HRX:Hid (∀ z,OW x10 q.obs z→z.rangeAt lb (lo + k * 7) [.slice Ar e.row.length ec,.int .i64 e.fam,.slice B e.qual.length d,.int .i64 e.ts,.int .i64 e.seq,.int .i64 e.kind,.slice D e.val.length qq]):=Lib.hid fun z hz j v hj=>(hz.up.cell (p:=⟨lb,_,none⟩) hbl).trans (hrg j v hj)
    have HEX:Hid (∀ z,OW x10 q.obs z→En z Ar e.row.length ec B e.qual.length d D e.val.length qq e):=Lib.hid fun z hz=>hen.later hz.up
    obtain ⟨v,hv⟩:∃ v,cmpE e t=v:=⟨_,rfl⟩
    have HV:=Lib.hid hv
    have hv0:v < 0:=by rw [← hv];exact HKA.out k e hek hlk
    have m1:decide (v < 0)=true:=decide_eq_true hv0
    clear hek hrg hen hbl hv
    go_wp2_with fail
    refine lt_start [] (by kernel_rfl) ?_
    intro xd hd
    refine ⟨fun z=>OW x10 q.obs z,?_⟩
    have HS:=Lib.hid (HO.out.later hd)
    refine lp2 0 rfl (fun _=>HS.out) ?_
    simp only [Act.put,ls]
    refine lp2 1 rfl (fun _=>HS.out) ?_
    simp only [Act.put,ls]
    refine lp2 2 rfl (fun _=>HS.out) ?_
    simp only [Act.put,ls]
    refine lp2 3 rfl (fun _=>HS.out) ?_
    simp only [Act.put,ls]
    refine lp2 4 rfl (fun _=>HS.out) ?_
    simp only [Act.put,ls]
    refine lp2 5 rfl (fun _=>HS.out) ?_
    simp only [Act.put,ls]
    refine lp2 6 rfl (fun _=>HS.out) ?_
    simp only [Act.put,ls]
    refine lp2 7 rfl (fun _=>HS.out) ?_
    simp only [Act.put,ls]
    refine lq 8 [13,14,15] rfl (yi_rowO rfl rfl rfl (fun w hS=>HRX.out w hS) ent_row5) HS.out ?_
    simp only [Act.put,ls]
    refine lp2 9 rfl (fun _=>HS.out) ?_
    simp only [Act.put,ls]
    refine lp2 10 rfl (fun _=>HS.out) ?_
    simp only [Act.put,ls]
    refine lp2 11 rfl (fun _=>HS.out) ?_
    simp only [Act.put,ls]
    refine lq 12 [13,14,15] rfl (yi_rowO rfl rfl rfl (fun w hS=>HRT.out w hS) ent_row5) HS.out ?_
    simp only [Act.put,ls]
    refine lt_call 13 rfl (by kernel_rfl) rfl rfl ⟨_,Tryz.func40,by decide,by kernel_rfl⟩ [entV Ar e.row.length ec B e.qual.length d D e.val.length qq e,entV tA t.row.length tcc tB t.qual.length td tD t.val.length tq t] rfl ?_
    refine (rcompare_any e t Ar _ ec B _ d D _ qq tA _ tcc tB _ td tD _ tq _ (HEX.out _ HS.out) (HET.out _ HS.out)).mono ?_
    rw [HV.out]
    rintro r y1 ⟨rfl,hb⟩
    replace HS:=Lib.hid (HS.out.later hb)
    clear hb
    refine ⟨_,rfl,fun _=>HS.out,?_⟩
    simp only [Act.put,ls]
    refine lp2 14 rfl (fun _=>HS.out) ?_
    simp only [Act.put,ls]
    refine lp2 15 rfl (fun _=>HS.out) ?_
    simp only [Act.put,ls]
    refine lt_done (by kernel_rfl) ?_
    replace HO:=HS
    clear HS
    go_wp2_with fail
    go_roundw
    case rel=>exact ⟨k + 1,by omega,by go_num,HO⟩
    case measure=>simp [intOf];omega
   obtain rfl:k=K:=by omega
   clear hlk hkK
   by_cases hkl:k < ll
   case' pos =>
    have hdk:decide ((k:Int) < (ll:Int))=true:=decide_eq_true (by omega)
    have i0:(0:Int)≤(k:Int):=by omega
    have i1:(k:Int) < (ll:Int):=by omega
    obtain ⟨b,oo,Ar,ec,B,d,D,qq,e,hLA,hbl,hek,hrg,hen⟩:=(HLE.out _ (Below.refl _ _)).at_ hkl
    injection hLA with hLA
    injection hLA with hb1 hb2 _
    subst hb1 hb2
    have HRX:Hid (∀ z,OW x10 q.obs z→z.rangeAt lb (lo + k * 7) [.slice Ar e.row.length ec,.int .i64 e.fam,.slice B e.qual.length d,.int .i64 e.ts,.int .i64 e.seq,.int .i64 e.kind,.slice D e.val.length qq]):=Lib.hid fun z hz j v hj=>(hz.up.cell (p:=⟨lb,_,none⟩) hbl).trans (hrg j v hj)
    have HEX:Hid (∀ z,OW x10 q.obs z→En z Ar e.row.length ec B e.qual.length d D e.val.length qq e):=Lib.hid fun z hz=>hen.later hz.up
    obtain ⟨v,hv⟩:∃ v,cmpE e t=v:=⟨_,rfl⟩
    have HV:=Lib.hid hv
    have hv0:¬ v < 0:=by have h9:=HKB.out e hek;omega
    have m1:decide (v < 0)=false:=decide_eq_false hv0
    clear hek hrg hen hbl hv
    go_wp2_with fail
    refine lt_start [] (by kernel_rfl) ?_
    intro xd hd
    refine ⟨fun z=>OW x10 q.obs z,?_⟩
    have HS:=Lib.hid (HO.out.later hd)
    refine lp2 0 rfl (fun _=>HS.out) ?_
    simp only [Act.put,ls]
    refine lp2 1 rfl (fun _=>HS.out) ?_
    simp only [Act.put,ls]
    refine lp2 2 rfl (fun _=>HS.out) ?_
    simp only [Act.put,ls]
    refine lp2 3 rfl (fun _=>HS.out) ?_
    simp only [Act.put,ls]
    refine lp2 4 rfl (fun _=>HS.out) ?_
    simp only [Act.put,ls]
    refine lp2 5 rfl (fun _=>HS.out) ?_
    simp only [Act.put,ls]
    refine lp2 6 rfl (fun _=>HS.out) ?_
    simp only [Act.put,ls]
    refine lp2 7 rfl (fun _=>HS.out) ?_
    simp only [Act.put,ls]
    refine lq 8 [13,14,15] rfl (yi_rowO rfl rfl rfl (fun w hS=>HRX.out w hS) ent_row5) HS.out ?_
    simp only [Act.put,ls]
    refine lp2 9 rfl (fun _=>HS.out) ?_
    simp only [Act.put,ls]
    refine lp2 10 rfl (fun _=>HS.out) ?_
    simp only [Act.put,ls]
    refine lp2 11 rfl (fun _=>HS.out) ?_
    simp only [Act.put,ls]
    refine lq 12 [13,14,15] rfl (yi_rowO rfl rfl rfl (fun w hS=>HRT.out w hS) ent_row5) HS.out ?_
    simp only [Act.put,ls]
    refine lt_call 13 rfl (by kernel_rfl) rfl rfl ⟨_,Tryz.func40,by decide,by kernel_rfl⟩ [entV Ar e.row.length ec B e.qual.length d D e.val.length qq e,entV tA t.row.length tcc tB t.qual.length td tD t.val.length tq t] rfl ?_
    refine (rcompare_any e t Ar _ ec B _ d D _ qq tA _ tcc tB _ td tD _ tq _ (HEX.out _ HS.out) (HET.out _ HS.out)).mono ?_
    rw [HV.out]
    rintro r y1 ⟨rfl,hb⟩
    replace HS:=Lib.hid (HS.out.later hb)
    clear hb
    refine ⟨_,rfl,fun _=>HS.out,?_⟩
    simp only [Act.put,ls]
    refine lp2 14 rfl (fun _=>HS.out) ?_
    simp only [Act.put,ls]
    refine lp2 15 rfl (fun _=>HS.out) ?_
    simp only [Act.put,ls]
    refine lt_done (by kernel_rfl) ?_
    replace HO:=HS
    clear HS
   case' neg =>
    have hdk:decide ((k:Int) < (ll:Int))=false:=decide_eq_false (by omega)
    go_wp2_with fail
    refine lt_start [] (by kernel_rfl) ?_
    intro xd hd
    refine ⟨fun z=>OW x10 q.obs z,?_⟩
    have HS:=Lib.hid (HO.out.later hd)
    refine lp2 0 rfl (fun _=>HS.out) ?_
    simp only [Act.put,ls]
    refine lp2 1 rfl (fun _=>HS.out) ?_
    simp only [Act.put,ls]
    refine lp2 2 rfl (fun _=>HS.out) ?_
    simp only [Act.put,ls]
    refine lp2 3 rfl (fun _=>HS.out) ?_
    simp only [Act.put,ls]
    refine lp2 4 rfl (fun _=>HS.out) ?_
    simp only [Act.put,ls]
    refine lk 5 rfl (fun _=>HS.out) ?_
    simp only [Act.put,ls]
    refine lk 6 rfl (fun _=>HS.out) ?_
    simp only [Act.put,ls]
    refine lk 7 rfl (fun _=>HS.out) ?_
    simp only [Act.put,ls]
    refine lk 8 rfl (fun _=>HS.out) ?_
    simp only [Act.put,ls]
    refine lk 9 rfl (fun _=>HS.out) ?_
    simp only [Act.put,ls]
    refine lk 10 rfl (fun _=>HS.out) ?_
    simp only [Act.put,ls]
    refine lk 11 rfl (fun _=>HS.out) ?_
    simp only [Act.put,ls]
    refine lk 12 rfl (fun _=>HS.out) ?_
    simp only [Act.put,ls]
    refine lk 13 rfl (fun _=>HS.out) ?_
    simp only [Act.put,ls]
    refine lk 14 rfl (fun _=>HS.out) ?_
    simp only [Act.put,ls]
    refine lp2 15 rfl (fun _=>HS.out) ?_
    simp only [Act.put,ls]
    refine lt_done (by kernel_rfl) ?_
    replace HO:=HS
    clear HS
   all_goals
    have hm0:((L.drop k).length:Int)≤(ll:Int):=by rw [HDL.out];omega
    have hm1:(L.drop k).length≤1000000000:=by rw [HDL.out];omega
    go_upto_region 14 with (first
     | (refine wpList_load_at rfl 60 (.tmp 63) rfl rfl (HRT.out _ HO.out) ent_row5 ?_)
     | (go_at_call 35;go_must (refine (seek7_any q HQ.out.2 _ (RunAt.of HQ.out.2.ok HO.out (List.Sublist.refl _)) t tA _ tcc tB _ td tD _ tq (HET.out _ HO.out) (by have:=HTN.out;omega)).mono ?_);rintro e y1 ⟨cu,hok,hrest,rfl,hz⟩;have HO2:Hid (OW x10 (cu.obs q ++ q.obs) y1):=Lib.hid ((HO.out.app hz).perm List.perm_append_comm);rw [HST.out] at hrest;have HCU:=Lib.hid (And.intro hok hrest);clear hok hrest hz HO)
     | (go_at_call 34;go_must (refine (gone_any q HQ.out.2 cu HCU.out.1 x10 _ q.obs (List.Sublist.refl _) HO2.out (HTB.out _ HU10.out) (L.drop k) true HCU.out.2 ll hm0 hm1).mono ?_);intro e y2 hp;obtain ⟨c',GA,gc,rs,_,_,_,j4,rfl,hz⟩:=hp;rw [HEK.out];have HZ:Hid (OW x10 (entsO GA rs.length gc rs ++ (c'.obs q ++ q.obs)) y2):=Lib.hid hz;have HRQ:=Lib.hid j4;clear hz j4 HO2))
    have HGE:Hid (Ens y2 GA rs.length (L.drop k)):=Lib.hid (by
     have h:=rowE_ens HZ.out
     rwa [HRQ.out] at h)
    have HRN:Hid (rs.length≤1000000000):=Lib.hid (by have h:=HGE.out.len;omega)
    have HLD:Hid (Ens y2 (some ⟨lb,lo + k * 7,none⟩) (ll - k) (L.drop k)):=Lib.hid ((HLE.out _ HZ.out.up).dropAt hKl)
    have s0:(0:Int)≤(k:Int):=by omega
    have s1:(k:Int)≤(ll:Int):=by omega
    have s2:(k:Int)≤(lc:Int):=by omega
    have s3:(ll:Int)≤(lc:Int):=by omega
    by_cases hkc:k < lc
    case pos =>
     have hkc2:(k:Int) < (lc:Int):=by omega
     have hkc3:¬ lc=k:=by omega
     go_wp2_with (go_at_call 32;go_must (refine (sameAll_any (L.drop k) (L.drop k) GA rs.length gc (some ⟨lb,lo + k * 7,none⟩) (ll - k) (lc - k) _ HGE.out HLD.out HRN.out).mono ?_);rintro e y3 ⟨bo,rfl,hbo,hb⟩;obtain rfl:=hbo.2 rfl;have HO3:Hid (OW x10 q.obs y3):=Lib.hid (OW.right (os:=c'.obs q) (OW.right (HZ.out.later hb)));clear hb hbo)
     go_roundw
     case rel=>exact ⟨i + 1,by omega,by omega,by go_num,HO3⟩
     case measure=>simp [intOf];omega
    case neg =>
     obtain rfl:lc=k:=by omega
     obtain rfl:ll=lc:=by omega
     have HNL:Hid (L.drop ll=[]):=Lib.hid (List.eq_nil_of_length_eq_zero (by rw [HDL.out];omega))
     have hd9:¬ ll < ll:=by omega
     go_wp2_with (go_at_call 32;go_must (refine (sameAll_any (L.drop ll) (L.drop ll) GA rs.length gc _ _ _ _ HGE.out (by rw [HNL.out];exact Ens.nil) HRN.out).mono ?_);rintro e y3 ⟨bo,rfl,hbo,hb⟩;obtain rfl:=hbo.2 rfl;have HO3:Hid (OW x10 q.obs y3):=Lib.hid (OW.right (os:=c'.obs q) (OW.right (HZ.out.later hb)));clear hb hbo)
     go_roundw
     case rel=>exact ⟨i + 1,by omega,by omega,by go_num,HO3⟩
     case measure=>simp [intOf];omega
end Go.Proofs.YtfdbcfaeiglbeaaGreatDoor
