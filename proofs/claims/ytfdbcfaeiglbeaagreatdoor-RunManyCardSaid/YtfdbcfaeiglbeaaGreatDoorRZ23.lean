/-
 BlockL3, BlockM2, BlockM4, RunP4, RunP5, BlockR1, BlockR2, BlockL2, BlockS1, BlockA1, BlockS4, RunP6, RunP7, RunP8, RunP9, RunP10, RunP11, RunP12.
-/
import Derived.Test.YtfdbcfaeiglbeaaGreatDoorRZ21
import Derived.Test.YtfdbcfaeiglbeaaGreatDoorRZ22
namespace Go.Proofs.YtfdbcfaeiglbeaaGreatDoor
open Go.RowKit
theorem reads_drop {x:World} {B sz g o k N:Nat} {xs:List Value} (h:Reads x B sz (some ⟨g,o,none⟩) k xs) (hN:N < k):Reads x B sz (some ⟨g,o + N * sz,none⟩) (k - N) (xs.drop (N * sz)):=by
 obtain ⟨b',o',e,hb,hc⟩:=h.2 (by omega)
 injection e with e;injection e with e1 e2 _
 subst e1 e2
 refine ⟨by rw [List.length_drop,h.1,Nat.sub_mul],fun _=>⟨g,o + N * sz,rfl,hb,fun j u hu=>?_⟩⟩
 rw [List.getElem?_drop] at hu
 rw [Nat.add_assoc]
 exact hc _ u hu
theorem reads_drop0 {x:World} {B sz g k N:Nat} {xs:List Value} (h:Reads x B sz (some ⟨g,0,none⟩) k xs) (hN:N < k):Reads x B sz (some ⟨g,N * sz,none⟩) (k - N) (xs.drop (N * sz)):=by
 have:=reads_drop h hN
 rwa [Nat.zero_add] at this
theorem cells_one {rs:List ER} {u:Value} (h:u ∈ rs.flatMap ER.cells):u.oneCell'=true:=by
 obtain ⟨r,_,hu⟩:=List.mem_flatMap.1 h
 simp only [ER.cells,List.mem_cons,List.not_mem_nil,or_false] at hu
 rcases hu with rfl | rfl | rfl | rfl | rfl | rfl | rfl <;> rfl
theorem flat7_drop (rs:List ER) (m:Nat):(rs.flatMap ER.cells).drop (m * 7)=(rs.drop m).flatMap ER.cells:=by
 induction rs generalizing m with
 | nil=>simp
 | cons r rs ih =>
  cases m with
  | zero=>simp
  | succ m =>
   rw [List.drop_succ_cons,List.flatMap_cons,List.drop_append,ER.len,List.drop_of_length_le (by rw [ER.len];omega),show (m + 1) * 7 - 7=m * 7 from by omega,ih,List.nil_append]
theorem OW.rowRange {w x:World} {os:List Ob} {i g c k j:Nat} {T:TypeId} {rs:List ER} {r:ER} (h:OW w os x) (hi:os[i]?=some (rowO T 7 (.slice (some ⟨g,0,none⟩) k c) k (rs.flatMap ER.cells))) (hr:rs[j]?=some r):x.rangeAt g (j * 7) r.cells:=fun q v hq=>by
 have hq7:q < 7:=(List.getElem?_eq_some_iff.1 hq).1
 have hrow:=h.row hi
 have hjl:j < rs.length:=(List.getElem?_eq_some_iff.1 hr).1
 have hlen:(rs.flatMap ER.cells).length=k * 7:=hrow.1
 rw [flat7_len] at hlen
 rw [World.ownsRow.cellAt hrow (j * 7 + q) (by omega),flat7_at hr q hq7];exact hq
structure Srt (w:World) (rs:List ER) (L:List Ent):Prop where
  ents:rs.map ER.e=L
  en:∀ r,r ∈ rs→∀ z,Below w.heap.size w z→r.En z
theorem Srt.len {w:World} {rs:List ER} {L:List Ent} (h:Srt w rs L):rs.length=L.length:=by rw [← h.ents,List.length_map]
theorem Srt.at_ {w:World} {rs:List ER} {L:List Ent} (h:Srt w rs L) {j:Nat} {r:ER} (hr:rs[j]?=some r):L[j]?=some r.e:=by rw [← h.ents,List.getElem?_map,hr];rfl
theorem Srt.ens {w x:World} {os:List Ob} {rs:List ER} {L:List Ent} {i c k:Nat} {A:Option Addr} {T:TypeId} (h:Srt w rs L) (hx:OW w os x) (hi:os[i]?=some (rowO T 7 (.slice A k c) k (rs.flatMap ER.cells))):Ens x A k L:=by
 rw [← h.ents]
 exact hx.ens hi fun r hr=>h.en r hr x hx.up
theorem build_snoc {R:Nat} {L:List Ent} {e:Ent} (h0:(buildK R [] L).1=0):(buildK R [] (L ++ [e])).1=addC R L e:=by
 rw [buildK_app,if_pos h0,List.nil_append]
 unfold buildK
 split
 ·rename_i h;rw [h];rfl
 ·rfl
theorem uintB_10 {v:Nat} (h:v≤1000000):(uintB v).length≤10:=uintB_ten (by omega)
theorem rowK_le {al:Nat} {k v:List UInt8} (ha:al≤k.length) (hk:k.length≤1048) (hv:v.length≤4096):(rowK al k v).length≤5174:=by
 unfold rowK
 simp only [List.length_append,List.length_drop]
 have h1:=uintB_10 (v:=al) (by omega)
 have h2:=uintB_10 (v:=k.length - al) (by omega)
 have h3:=uintB_10 (v:=v.length) (by omega)
 omega
theorem lastOk_of {L:List Ent} {e:Ent} (h:AscE (L ++ [e])):lastOk L e=true:=by
 unfold lastOk
 cases hl:L.getLast? with
 | none=>rfl
 | some l =>
  have hm:l ∈ L:=List.mem_of_getLast? hl
  exact decide_eq_true ((List.pairwise_append.1 h).2.2 l hm e (by simp))
theorem cut_bld {t:Nat} {L:List Ent} (ht:t≤65536) (hc:∀ e,e ∈ L→checkE e=0):∀ c,c ∈ cutR t [] L→c ≠ []∧(AscE c→(buildK 16 [] c).1=0):=by
 refine cutR_all t (E:=fun e=>checkE e=0) (P:=fun c=>AscE c→(buildK 16 [] c).1=0) ?_ L [] hc (fun h=>absurd rfl h) (fun _=>rfl)
 intro now e he hs hP ha
 have h0:=hP (List.pairwise_append.1 ha).1
 rw [build_snoc h0]
 have ho:=ok_of he
 unfold addC
 rw [if_neg (by simp [he]),if_neg (by rw [lastOk_of ha];decide),if_neg]
 rw [size_step]
 have h1:=(alike_le 16 (runB 16 now) (keyE e)).2
 have h2:=rowK_le h1 (keyE_len ho) ho.val.1
 have h3:sizeS (runB 16 now)≤65536:=by
  rcases hs with rfl | hs
  ·decide
  ·omega
 split <;> omega
theorem asc_parts:∀ {cs:List (List Ent)},AscE cs.flatten→(∀ c,c ∈ cs→AscE c)∧cs.Pairwise (fun a b=>∀ x,x ∈ a→∀ y,y ∈ b→cmpE x y < 0)
 | [],_=>⟨fun c h=>(by cases h),List.Pairwise.nil⟩
 | c::cs,h=>by
  rw [List.flatten_cons] at h
  obtain ⟨h1,h2,h3⟩:=List.pairwise_append.1 h
  obtain ⟨h4,h5⟩:=asc_parts h2
  refine ⟨fun d hd=>?_,List.Pairwise.cons (fun d hd x hx y hy=>h3 x hx y (List.mem_flatten.2 ⟨d,hd,hy⟩)) h5⟩
  rcases List.mem_cons.1 hd with rfl | hd
  ·exact h1
  ·exact h4 d hd
theorem lay_pos {c:List Ent} (h:c ≠ []):9≤(layB 16 c).length:=by rw [layB_len 16 h];unfold sizeS;omega
theorem build_len {c:List Ent} (h:buildE5 16 c=(layB 16 c,0)) (hn:c ≠ []):(layB 16 c).length≤131072:=by
 obtain ⟨_,_,h0,_,_,_⟩:=build_parts (R:=16) h
 have:=buildK_size 16 c [] (by decide) h0
 rw [layB_len 16 hn]
 simpa using this
theorem chs_of:∀ {cs:List (List Ent)} {p:Option (List UInt8)},(∀ c,c ∈ cs→ChOk c)→cs.Pairwise (fun a b=>∀ x,x ∈ a→∀ y,y ∈ b→cmpE x y < 0)→(∀ c,cs.head?=some c→behR p (firstK c)=false)→ChsOk p cs
 | [],_,_,_,_=>trivial
 | c::cs,p,h,hp,h0=>by
  have hc:=h c (.head _)
  obtain ⟨hp1,hp2⟩:=List.pairwise_cons.1 hp
  refine ⟨hc,h0 c rfl,by have:=lay_pos hc.ne;omega,by have:=build_len hc.bld hc.ne;omega,chs_of (fun d hd=>h d (.tail _ hd)) hp2 fun d hd=>?_⟩
  have hdm:d ∈ cs:=List.mem_of_head? hd
  have hdc:=h d (.tail _ hdm)
  obtain ⟨a,_,ma,e1⟩:=hc.last
  obtain ⟨b,_,mb,e2⟩:=hdc.first
  have h1:=hp1 d hdm a ma b mb
  rw [e1,e2]
  show decide (0≤cmpB (keyE a) (keyE b))=false
  rw [key_sorts (ok_of (hc.chk a ma)) (ok_of (hdc.chk b mb))]
  exact decide_eq_false (by omega)
theorem cut_ch {index:Int} {t:Nat} {L:List Ent} (ht:t≤65536) (h:LookOk index L):(∀ c,c ∈ cutR t [] L→ChOk c)∧ChsOk none (cutR t [] L):=by
 have hf:(cutR t [] L).flatten=L:=by rw [cutR_flat];rfl
 have ha:AscE (cutR t [] L).flatten:=by rw [hf];exact h.ascE
 obtain ⟨h1,h2⟩:=asc_parts ha
 have hc:∀ c,c ∈ cutR t [] L→ChOk c:=fun c hc=>by
  obtain ⟨hn,hb⟩:=cut_bld ht h.chk c hc
  have hcm:∀ e,e ∈ c→e ∈ L:=fun e he=>by rw [← hf];exact List.mem_flatten.2 ⟨c,hc,he⟩
  refine ⟨hn,fun e he=>h.chk e (hcm e he),h1 c hc,?_⟩
  have h0:=hb (h1 c hc)
  unfold buildE5
  rw [if_neg (by decide),if_pos (by exact h0)]
  unfold finE
  rw [if_neg hn]
  rfl
 exact ⟨hc,chs_of hc h2 fun c _=>rfl⟩
theorem cut_ne {t:Nat} {L:List Ent} (h:L ≠ []):cutR t [] L ≠ []:=fun h0=>by
 have hf:(cutR t [] L).flatten=L:=by rw [cutR_flat];rfl
 rw [h0] at hf
 exact h hf.symm
theorem cut_count {t:Nat} {L:List Ent} (h:∀ c,c ∈ cutR t [] L→c ≠ []):(cutR t [] L).length≤L.length:=by
 have hf:(cutR t [] L).flatten=L:=by rw [cutR_flat];rfl
 have hk:∀ cs:List (List Ent),(∀ c,c ∈ cs→c ≠ [])→cs.length≤cs.flatten.length:=by
  intro cs
  induction cs with
  | nil=>intro _;exact Nat.le_refl _
  | cons c cs ih =>
   intro h
   have h1:=ih fun d hd=>h d (.tail _ hd)
   have h2:0 < c.length:=List.length_pos_iff.2 (h c (.head _))
   rw [List.flatten_cons,List.length_append,List.length_cons]
   omega
 have:=hk _ h
 rwa [hf] at this
theorem sumdB_len (b:List UInt8):(sumdB b).length=b.length + 4:=by unfold sumdB;rw [List.length_append,lowB_len]
theorem cutS_mid (p m r:List UInt8) {k n:Nat} (hk:k=p.length) (hn:n=m.length):cutS (p ++ (m ++ r)) k n=m:=by
 subst hk hn
 unfold cutS
 rw [List.drop_left' rfl,List.take_left' rfl]
theorem refuse_ok {o:OptR} {L:List Ent} (h:refuseR o L=0):optOk o=true∧L ≠ []∧LookOk o.index L:=by
 unfold refuseR at h
 split at h
 ·cases h
 ·rename_i h1
  split at h
  ·cases h
  ·rename_i h2
   exact ⟨by simpa using h1,h2,look_ok h⟩
theorem open_back {o:OptR} {L:List Ent} (h:refuseR o L=0) (hn:L.length≤1000000) (hl:(runBy o L).length≤16777216) :
  openP (runBy o L)=some ⟨runBy o L,L.length,o.index.toNat,o.low.toNat,o.clock.toNat,filtR o L,pcsOf 8 (cutR o.block.toNat [] L)⟩:=by
 obtain ⟨h1,h2,h3⟩:=refuse_ok h
 obtain ⟨⟨b1,b2,b3,b4⟩,hse⟩:=optOk.iff h1
 obtain ⟨s1,s2,s3,s4,s5,s6⟩:=sealI.iff hse
 obtain ⟨cs,hcs⟩:∃ z,z=cutR o.block.toNat [] L:=⟨_,rfl⟩
 obtain ⟨hch,hchs⟩:=cut_ch (t:=o.block.toNat) (by omega) h3
 have hne:=cut_ne (t:=o.block.toNat) h2
 have hct:=cut_count fun c hc=>(hch c hc).ne
 unfold runBy at hl ⊢
 rw [← hcs] at hch hchs hne hct hl ⊢
 have e1:runC o L cs=headR cs ++ (sumdB (filtR o L) ++ (sumdB (indexR cs) ++ frameB (risBs (numsR o L cs)))):=by unfold runC;simp only [List.append_assoc]
 have e2:runC o L cs=(headR cs ++ sumdB (filtR o L)) ++ (sumdB (indexR cs) ++ frameB (risBs (numsR o L cs))):=by unfold runC;simp only [List.append_assoc]
 have e3:runC o L cs=headR cs ++ (filtR o L ++ (lowB (sumL (filtR o L)) ++ (sumdB (indexR cs) ++ frameB (risBs (numsR o L cs))))):=by unfold runC sumdB;simp only [List.append_assoc]
 have e4:runC o L cs=(headR cs ++ sumdB (filtR o L)) ++ (indexR cs ++ (lowB (sumL (indexR cs)) ++ frameB (risBs (numsR o L cs)))):=by unfold runC sumdB;simp only [List.append_assoc]
 have hfl:(frameB (risBs (numsR o L cs))).length=68:=by rw [frameB_length,risBs_len];rfl
 have hL1:(headR cs).length=8 + (blocksR cs).length:=by unfold headR;rw [List.length_append];rfl
 have hL2:(headR cs ++ sumdB (filtR o L)).length=(headR cs).length + (filtR o L).length + 4:=by rw [List.length_append,sumdB_len];omega
 have hL3:(runC o L cs).length=(headR cs).length + (filtR o L).length + 4 + (indexR cs).length + 72:=by
  rw [e2,List.length_append,hL2,List.length_append,sumdB_len,hfl];omega
 have hns:∀ v,v ∈ numsR o L cs→v < 9223372036854775808:=by
  intro v hv
  unfold numsR at hv
  simp only [List.mem_cons,List.not_mem_nil,or_false] at hv
  rcases hv with rfl | rfl | rfl | rfl | rfl | rfl | rfl <;> omega
 have hN:=numsO_back (headR cs ++ sumdB (filtR o L) ++ sumdB (indexR cs)) (ns:=numsR o L cs) rfl hns
 have e5:runC o L cs=headR cs ++ sumdB (filtR o L) ++ sumdB (indexR cs) ++ frameB (risBs (numsR o L cs)):=rfl
 rw [← e5] at hN
 have hmag:(runC o L cs).take 8=magR:=by rw [e1];unfold headR;rw [List.append_assoc];exact List.take_left' (rfl:magR.length=8)
 unfold openP
 rw [if_neg (fun hh=>hh hmag),hN]
 show openN (runC o L cs) [L.length,o.index.toNat,o.low.toNat,o.clock.toNat,cs.length,(headR cs).length,(headR cs ++ sumdB (filtR o L)).length]=_
 unfold openN
 have c1:cutS (runC o L cs) (headR cs).length ((headR cs ++ sumdB (filtR o L)).length - (headR cs).length)=sumdB (filtR o L):=by
  rw [e1];exact cutS_mid _ _ _ rfl (by rw [List.length_append];omega)
 have c2:cutS (runC o L cs) (headR cs ++ sumdB (filtR o L)).length ((runC o L cs).length - 68 - (headR cs ++ sumdB (filtR o L)).length)=sumdB (indexR cs):=by
  have:(runC o L cs).length - 68 - (headR cs ++ sumdB (filtR o L)).length=(sumdB (indexR cs)).length:=by rw [sumdB_len];omega
  rw [this,e2];exact cutS_mid _ _ _ rfl rfl
 have c3:cutS (runC o L cs) (headR cs).length ((headR cs ++ sumdB (filtR o L)).length - (headR cs).length - 4)=filtR o L:=by
  have:(headR cs ++ sumdB (filtR o L)).length - (headR cs).length - 4=(filtR o L).length:=by omega
  rw [this,e3];exact cutS_mid _ _ _ rfl rfl
 have c4:cutS (runC o L cs) (headR cs ++ sumdB (filtR o L)).length ((runC o L cs).length - 72 - (headR cs ++ sumdB (filtR o L)).length)=indexR cs:=by
  have:(runC o L cs).length - 72 - (headR cs ++ sumdB (filtR o L)).length=(indexR cs).length:=by omega
  rw [this,e4];exact cutS_mid _ _ _ rfl rfl
 have hcl:0 < cs.length:=List.length_pos_iff.2 hne
 have hfi:filtR o L ≠ []→isF (filtR o L)=true:=by
  intro hf
  unfold filtR at hf ⊢
  by_cases hb:0 < o.bits
  ·rw [if_pos hb]
   refine buildB_isF ?_
   unfold buildE
   rw [if_neg (by omega),if_neg (by have:=rowsE_le L;omega)]
  ·rw [if_neg hb] at hf;exact absurd rfl hf
 have hse2:sealI (o.index.toNat:Int) (o.low.toNat:Int) (o.clock.toNat:Int)=true:=by
  rw [Int.toNat_of_nonneg s1,Int.toNat_of_nonneg s5,Int.toNat_of_nonneg (by omega)];exact hse
 dsimp only
 rw [if_neg (by rintro (hh | hh | hh);rw [hse2] at hh;cases hh;omega;omega),if_neg (by omega),c1,c2,if_neg (by rintro (hh | hh);rw [unsB_back] at hh;cases hh;rw [unsB_back] at hh;cases hh),c3,if_neg (by rintro ⟨hh1,hh2⟩;rw [hfi hh1] at hh2;cases hh2),c4,pcsO_back cs hchs (by omega) hL1.symm]
theorem blk_back {r:RunR} {c:List Ent} {pre post:List UInt8} {lo hi:Nat} (hc:ChOk c) (hb:r.bytes=pre ++ (layB 16 c ++ post)) (hp:pre.length=lo) (hh:hi=lo + (layB 16 c).length):blkR r ⟨firstK c,lastK c,lo,hi⟩=some c:=by
 have h1:cutS r.bytes lo (hi - lo)=layB 16 c:=by rw [hb];exact cutS_mid _ _ _ hp.symm (by omega)
 have h2:=(openE_lay (R:=16) hc.bld).1
 unfold blkR
 dsimp only
 rw [h1,h2]
 simp
theorem allF_back {r:RunR}:∀ (cs:List (List Ent)) (pre post:List UInt8) (at':Nat),(∀ c,c ∈ cs→ChOk c)→r.bytes=pre ++ (blocksR cs ++ post)→pre.length=at'→allF r (pcsOf at' cs)=(cs.flatten,true)
 | [],_,_,_,_,_,_=>rfl
 | c::cs,pre,post,at',h,hb,hp=>by
  rw [blocksR_cons,List.append_assoc] at hb
  have h1:=blk_back (r:=r) (lo:=at') (h c (.head _)) hb hp rfl
  have h2:=allF_back (r:=r) cs (pre ++ layB 16 c) post (at' + (layB 16 c).length) (fun d hd=>h d (.tail _ hd)) (by rw [hb,List.append_assoc]) (by rw [List.length_append,hp])
  show (match blkR r ⟨firstK c,lastK c,at',at' + (layB 16 c).length⟩ with
   | none=>([],false)
   | some L=>(L ++ (allF r (pcsOf (at' + (layB 16 c).length) cs)).1,(allF r (pcsOf (at' + (layB 16 c).length) cs)).2))=_
  rw [h1,h2]
  rfl
theorem seekF_back {r:RunR} (e:Ent):∀ (cs:List (List Ent)) (pre post:List UInt8) (at':Nat),(∀ c,c ∈ cs→ChOk c)→r.bytes=pre ++ (blocksR cs ++ post)→pre.length=at'→seekF r e (pcsOf at' cs)=(cs.flatten.filter (fun x=>decide (0≤cmpE x e)),true)
 | [],_,_,_,_,_,_=>rfl
 | c::cs,pre,post,at',h,hb,hp=>by
  rw [blocksR_cons,List.append_assoc] at hb
  have hc:=h c (.head _)
  have h1:=blk_back (r:=r) (lo:=at') hc hb hp rfl
  have h2:=seekF_back (r:=r) e cs (pre ++ layB 16 c) post (at' + (layB 16 c).length) (fun d hd=>h d (.tail _ hd)) (by rw [hb,List.append_assoc]) (by rw [List.length_append,hp])
  obtain ⟨b,hbl,mb,e2⟩:=hc.last
  have hk:keyP (lastK c)={ b with val:=[] }:=by unfold keyP;rw [e2,keyP_key (hc.chk b mb)]
  have hk2:cmpE (keyP (lastK c)) e=cmpE b e:=by rw [hk];rfl
  show (if cmpE (keyP (lastK c)) e < 0 then seekF r e (pcsOf (at' + (layB 16 c).length) cs) else match blkR r ⟨firstK c,lastK c,at',at' + (layB 16 c).length⟩ with
   | none=>([],false)
   | some L=>(L.filter (fun x=>decide (0≤cmpE x e)) ++ (seekF r e (pcsOf (at' + (layB 16 c).length) cs)).1,(seekF r e (pcsOf (at' + (layB 16 c).length) cs)).2))=_
  rw [h1,h2,hk2,List.flatten_cons,List.filter_append]
  split
  ·rename_i hlt
   have hz:c.filter (fun x=>decide (0≤cmpE x e))=[]:=by
    rw [List.filter_eq_nil_iff]
    intro x hx
    obtain ⟨k,hk,rfl⟩:=List.getElem_of_mem hx
    obtain ⟨hl,hl2⟩:=List.getElem?_eq_some_iff.1 hbl
    have hxe:cmpE c[k] e < 0:=by
     by_cases hkl:k=c.length - 1
     ·subst hkl;rw [hl2];exact hlt
     ·have hp:=List.pairwise_iff_getElem.1 hc.asc k (c.length - 1) hk hl (by omega)
      rw [hl2] at hp
      exact cmpE_lt_trans hp hlt
    simp only [decide_eq_true_eq]
    omega
   rw [hz];rfl
  ·rfl
def brokenN (r:RunR):List PcR→Nat→Option Nat
 | [],_=>none
 | p::l,i=>if (blkR r p).isNone then some i else brokenN r l (i + 1)
def rightR (r:RunR) (rows:List (List UInt8)):Bool:=decide (r.filt=[]) || (List.range 20).any fun k=>decide (buildE ((k + 1:Nat):Int) rows=0∧buildB ((k + 1:Nat):Int) rows=r.filt)
def fineR (r:RunR) (L:List Ent):Bool:=decide (L.length=r.count) && L.all (fun e=>decide (e.seq≤16 * (r.index:Int) + 15)) && rightR r (rowsE L)
def verR (r:RunR):Int×Int:=match brokenN r r.ps 0 with
 | some i=>((i:Int),73)
 | none=>if fineR r (allR r).1=true then (-1,0) else (-1,72)
theorem broken_back {r:RunR}:∀ (cs:List (List Ent)) (pre post:List UInt8) (at' i:Nat),(∀ c,c ∈ cs→ChOk c)→r.bytes=pre ++ (blocksR cs ++ post)→pre.length=at'→brokenN r (pcsOf at' cs) i=none
 | [],_,_,_,_,_,_,_=>rfl
 | c::cs,pre,post,at',i,h,hb,hp=>by
  rw [blocksR_cons,List.append_assoc] at hb
  have h1:=blk_back (r:=r) (lo:=at') (h c (.head _)) hb hp rfl
  have h2:=broken_back (r:=r) cs (pre ++ layB 16 c) post (at' + (layB 16 c).length) (i + 1) (fun d hd=>h d (.tail _ hd)) (by rw [hb,List.append_assoc]) (by rw [List.length_append,hp])
  show (if (blkR r ⟨firstK c,lastK c,at',at' + (layB 16 c).length⟩).isNone then some i else brokenN r (pcsOf (at' + (layB 16 c).length) cs) (i + 1))=none
  rw [h1,h2];rfl
def runW (o:OptR) (L:List Ent):RunR:=⟨runBy o L,L.length,o.index.toNat,o.low.toNat,o.clock.toNat,filtR o L,pcsOf 8 (cutR o.block.toNat [] L)⟩
theorem runW_split (o:OptR) (L:List Ent):∃ post,(runW o L).bytes=magR ++ (blocksR (cutR o.block.toNat [] L) ++ post) :=
 ⟨sumdB (filtR o L) ++ (sumdB (indexR (cutR o.block.toNat [] L)) ++ frameB (risBs (numsR o L (cutR o.block.toNat [] L)))),by show runC o L _=_;unfold runC headR;simp only [List.append_assoc]⟩
theorem written_tells {o:OptR} {L:List Ent} (h:refuseR o L=0) (hn:L.length≤1000000) :
  allR (runW o L)=(L,true)∧(∀ e,seekF (runW o L) e (runW o L).ps=(L.filter (fun x=>decide (0≤cmpE x e)),true))∧verR (runW o L)=(-1,0):=by
 obtain ⟨h1,h2,h3⟩:=refuse_ok h
 obtain ⟨⟨b1,b2,b3,b4⟩,hse⟩:=optOk.iff h1
 obtain ⟨s1,s2,s3,s4,s5,s6⟩:=sealI.iff hse
 obtain ⟨hch,_⟩:=cut_ch (t:=o.block.toNat) (by omega) h3
 obtain ⟨post,hb⟩:=runW_split o L
 have hf:(cutR o.block.toNat [] L).flatten=L:=by rw [cutR_flat];rfl
 have ha:allR (runW o L)=(L,true):=by
  have:=allF_back (r:=runW o L) _ magR post 8 hch hb rfl
  rw [hf] at this;exact this
 refine ⟨ha,fun e=>?_,?_⟩
 ·have:=seekF_back (r:=runW o L) e _ magR post 8 hch hb rfl
  rw [hf] at this;exact this
 ·have h4:brokenN (runW o L) (runW o L).ps 0=none:=broken_back (r:=runW o L) _ magR post 8 0 hch hb rfl
  unfold verR
  rw [h4,ha]
  dsimp only
  rw [if_pos]
  unfold fineR
  have f1:decide (L.length=(runW o L).count)=true:=decide_eq_true rfl
  have f2:L.all (fun e=>decide (e.seq≤16 * ((runW o L).index:Int) + 15))=true:=by
   rw [List.all_eq_true]
   intro e he
   have:=h3.seq e he
   have e1:((runW o L).index:Int)=o.index:=Int.toNat_of_nonneg s1
   rw [e1]
   exact decide_eq_true this
  rw [f1,f2]
  show rightR (runW o L) (rowsE L)=true
  unfold rightR
  by_cases hb0:0 < o.bits
  ·refine Bool.or_eq_true_iff.2 (.inr (List.any_eq_true.2 ⟨o.bits.toNat - 1,List.mem_range.2 (by omega),decide_eq_true ?_⟩))
   have e2:((o.bits.toNat - 1 + 1:Nat):Int)=o.bits:=by omega
   rw [e2]
   refine ⟨?_,?_⟩
   ·unfold buildE
    rw [if_neg (by omega),if_neg (by have:=rowsE_le L;omega)]
   ·show buildB o.bits (rowsE L)=filtR o L
    unfold filtR;rw [if_pos hb0]
  ·refine Bool.or_eq_true_iff.2 (.inl (decide_eq_true ?_))
   show filtR o L=[]
   unfold filtR;rw [if_neg hb0]
structure BkR (x:World) (R g:Nat) (L:List Ent):Prop where
  lt:g < x.heap.size
  c0:x.cell? ⟨g,0,none⟩=some (.int .i64 (R:Int))
  c1:∃ A c,x.cell? ⟨g,1,none⟩=some (.slice A L.length c)∧Ens x A L.length L
  c2:∃ A c,x.cell? ⟨g,2,none⟩=some (.slice A L.length c)∧RBs x x.heap.size A L.length (L.map keyE)
theorem BkR.later {x y:World} {R g:Nat} {L:List Ent} (h:BkR x R g L) (hb:Below x.heap.size x y):BkR y R g L:=by
 obtain ⟨h0,h1,⟨A,c,h2,h3⟩,⟨B,d,h4,h5⟩⟩:=h
 exact ⟨Nat.lt_of_lt_of_le h0 hb.size,(hb.cell (p:=⟨g,0,none⟩) h0).trans h1,⟨A,c,(hb.cell (p:=⟨g,1,none⟩) h0).trans h2,h3.later hb⟩,⟨B,d,(hb.cell (p:=⟨g,2,none⟩) h0).trans h4,h5.later hb⟩⟩
theorem Bk5.reads {w x:World} {R g:Nat} {L:List Ent} {os rest:List Ob} (hb:Bk5 R L g os) (h:OW w (os ++ rest) x):BkR x R g L:=by
 obtain ⟨lv,kv,zs,rfl,rfl,hz⟩:=hb
 obtain ⟨A,c,rfl,he⟩:=blk_ens h
 obtain ⟨B,d,rfl,_⟩:=own_slice (h.row (i:=2) rfl)
 have hl:(entsZ zs).length=zs.length:=by unfold entsZ;rw [List.length_map]
 refine ⟨(h.box (i:=0) rfl).2.1,h.cell (i:=0) (j:=0) rfl rfl,⟨A,c,by rw [hl];exact h.cell (i:=0) (j:=1) rfl rfl,by rw [hl];exact he⟩,⟨B,d,by rw [hl];exact h.cell (i:=0) (j:=2) rfl rfl,?_⟩⟩
 rw [hl]
 refine ⟨zs.map (valR ·.2),Reads.own (h.row (i:=2) rfl),by unfold entsZ;simp,fun i k hk=>?_⟩
 unfold entsZ at hk
 rw [List.map_map,List.getElem?_map] at hk
 obtain ⟨z,hzi,hke⟩:=Option.map_eq_some_iff.1 hk
 have hm:=List.mem_of_getElem? hzi
 have hkk:z.2.2.2=k:=by rw [(hz z hm).1];exact hke
 have hsl:=h.slm (T:=5) (A:=z.2.1) (c:=z.2.2.1) (l:=z.2.2.2) (List.mem_append_left _ (rowZ_mem hm (by simp [rowsZ]))) rfl
 rw [hkk] at hsl
 exact ⟨z.2.1,z.2.2.1,by rw [List.getElem?_map,hzi];simp only [Option.map_some,valR];rw [hkk],hsl.cap,hsl.lim,hsl.nil,hsl.rb⟩
theorem sclip_any (A:Option Addr) (n c:Nat) (w:World) (hc:n≤c) (_hl:c≤9223372036854775807):Calls Tryz.prog 195 #[.slice A n c] w fun e w'=>e = .returned (.slice A n n)∧w=w':=by
 have i1:(0:Int)≤(n:Int):=by omega
 have i2:(n:Int)≤(c:Int):=by omega
 go_enter Tryz.func195,Tryz.ntmps195
 go_wp2_with fail
 go_ret
 exact ⟨rfl,rfl⟩
def OwnP (mk:Value→Value) (e:Ent) (w:World) (r:Ending) (x:World):Prop :=
 ∃ A B D,r = .returned (mk (entV A e.row.length e.row.length B e.qual.length e.qual.length D e.val.length e.val.length e))∧CAt A e.row∧CAt B e.qual∧CAt D e.val∧OW w [clipO A e.row,clipO B e.qual,clipO D e.val] x
theorem OwnP.en {e:Ent} {w x:World} {A B D:Option Addr} (ha:CAt A e.row) (hb:CAt B e.qual) (hd:CAt D e.val) (hn:e.row.length≤9223372036854775807∧e.qual.length≤9223372036854775807∧e.val.length≤9223372036854775807) (h:OW w [clipO A e.row,clipO B e.qual,clipO D e.val] x):En x A e.row.length e.row.length B e.qual.length e.qual.length D e.val.length e.val.length e :=
 ⟨h.clipSl ha (i:=0) rfl rfl hn.1,h.clipSl hb (i:=1) rfl rfl hn.2.1,h.clipSl hd (i:=2) rfl rfl hn.2.2⟩
theorem ptr3 (g:Nat):∀ k:Nat,k < 3→∀ w,(Instr.index 276 (.agg #[.pointer (some ⟨g,0,none⟩),.pointer (some ⟨g,2,none⟩),.pointer (some ⟨g,6,none⟩)]) (.int .i64 (k:Int))).run Tryz.prog w = .ok (.pointer (some ⟨g,[0,2,6].getD k 0,none⟩)) w:=fun k hk w=>by
 match k,hk with
 | 0,_=>exact run_index_arr w _ 275 3 _ 0 _ (by kernel_rfl) (by kernel_rfl) (by kernel_rfl) (by decide) rfl
 | 1,_=>exact run_index_arr w _ 275 3 _ 1 _ (by kernel_rfl) (by kernel_rfl) (by kernel_rfl) (by decide) rfl
 | 2,_=>exact run_index_arr w _ 275 3 _ 2 _ (by kernel_rfl) (by kernel_rfl) (by kernel_rfl) (by decide) rfl
set_option maxRecDepth 100000 in
set_option maxHeartbeats 4000000 in
theorem own_any (e:Ent) (A:Option Addr) (n c:Nat) (B:Option Addr) (m d:Nat) (D:Option Addr) (v q:Nat) (w:World) (h:En w A n c B m d D v q e) (hn:n≤140737488355000∧m≤140737488355000∧v≤140737488355000) :
  Calls Tryz.prog 153 #[entV A n c B m d D v q e] w (OwnP (fun v=>v) e w):=by
 obtain ⟨hn1,hn2,hn3⟩:=hn
 have HE:Hid (∀ z,Below w.heap.size w z→En z A n c B m d D v q e):=Lib.hid fun z hz=>h.later hz
 have HLR:=Lib.hid h.row.rb.len
 have HLQ:=Lib.hid h.qual.rb.len
 have HLV:=Lib.hid h.val.rb.len
 clear h
 have HX:=Lib.hid (OW.nil w)
 go_enter Tryz.func153,Tryz.ntmps153
 go_wp2_with (first
  | (refine wl_box rfl (.tmp 0) rfl [.slice A n c,.int .i64 e.fam,.slice B m d,.int .i64 e.ts,.int .i64 e.seq,.int .i64 e.kind,.slice D v q] rfl HX.out ?_;intro gb x1 hz _;replace HX:=Lib.hid hz;clear hz)
  | (refine wl_alloc rfl rfl [.slice none 0 0,.int .i64 0,.slice none 0 0,.int .i64 0,.int .i64 0,.int .i64 0,.slice none 0 0] (.inl (by kernel_rfl)) HX.out ?_;intro gr x2 hz _;have HX0:=Lib.hid hz;clear hz HX))
 go_loopw [9] (fun i wr=>∃ k:Nat,k≤3∧i = .int .i64 k∧Hid (
  (k=0→OW w [boxO gb [.slice A n c,.int .i64 e.fam,.slice B m d,.int .i64 e.ts,.int .i64 e.seq,.int .i64 e.kind,.slice D v q],boxO gr [.slice none 0 0,.int .i64 0,.slice none 0 0,.int .i64 0,.int .i64 0,.int .i64 0,.slice none 0 0]] wr) ∧
  (k=1→∃ A1,CAt A1 e.row∧OW w [boxO gb [.slice A1 n n,.int .i64 e.fam,.slice B m d,.int .i64 e.ts,.int .i64 e.seq,.int .i64 e.kind,.slice D v q],boxO gr [.slice none 0 0,.int .i64 0,.slice none 0 0,.int .i64 0,.int .i64 0,.int .i64 0,.slice none 0 0],clipO A1 e.row] wr) ∧
  (k=2→∃ A1 B1,CAt A1 e.row∧CAt B1 e.qual∧OW w [boxO gb [.slice A1 n n,.int .i64 e.fam,.slice B1 m m,.int .i64 e.ts,.int .i64 e.seq,.int .i64 e.kind,.slice D v q],boxO gr [.slice none 0 0,.int .i64 0,.slice none 0 0,.int .i64 0,.int .i64 0,.int .i64 0,.slice none 0 0],clipO A1 e.row,clipO B1 e.qual] wr) ∧
  (k=3→∃ A1 B1 D1,CAt A1 e.row∧CAt B1 e.qual∧CAt D1 e.val∧OW w [boxO gb [.slice A1 n n,.int .i64 e.fam,.slice B1 m m,.int .i64 e.ts,.int .i64 e.seq,.int .i64 e.kind,.slice D1 v v],boxO gr [.slice none 0 0,.int .i64 0,.slice none 0 0,.int .i64 0,.int .i64 0,.int .i64 0,.slice none 0 0],clipO A1 e.row,clipO B1 e.qual,clipO D1 e.val] wr))) (fun i _=>3 - (intOf i).toNat)
 case atStart=>exact ⟨0,by omega,rfl,Lib.hid ⟨fun _=>HX0.out,fun h=>by omega,fun h=>by omega,fun h=>by omega⟩⟩
 case round =>
  clear HX0
  obtain ⟨k,hk,hi,HS⟩:=hrel
  have hk':k=0∨k=1∨k=2∨k=3:=by omega
  clear hk
  rcases hk' with rfl | rfl | rfl | rfl
  case inl =>
   replace hi:_=Value.int .i64 0:=hi
   subst hi
   have hx:=HS.out.1 rfl
   have HX:=Lib.hid hx
   clear HS hx 
   have ix:∀ w,(Instr.index 276 (.agg #[.pointer (some ⟨gb,0,none⟩),.pointer (some ⟨gb,2,none⟩),.pointer (some ⟨gb,6,none⟩)]) (.int .i64 0)).run Tryz.prog w = .ok (.pointer (some ⟨gb,0,none⟩)) w:=fun w=>ptr3 gb 0 (by decide) w
   have HN:=Lib.hid (HX.out.nilB 5)
   go_wp2_with (first
    | (refine wpList_load_cell rfl 34 (.tmp 14) rfl rfl (HX.out.cell (i:=0) (j:=0) rfl rfl) Tryz.isAgg34 ?_)
    | (at_builtin;go_must (refine wl_appB rfl (.const (.slice none 0 0)) (.tmp 15) rfl Tryz.u8s' HN.out 2 (n:=0) rfl rfl rfl _ _ n _ e.row rfl (HE.out _ HX.out.up).row.rb (by omega) ?_);intro A1 c9 x5 hz;rw [Nat.zero_add];have HY:=Lib.hid hz;have HCN:=Lib.hid (cat_of HY.out (i:=2) rfl);have HY2:=Lib.hid (HY.out.clip (i:=2) rfl);have hcp:=(HY.out.sl (i:=2) rfl (show ([] ++ e.row).length=n from HLR.out));have hc1:=hcp.cap;have hc2:=hcp.lim;clear hz hcp HX HN HY)
    | (go_at_call 195;go_must (refine (sclip_any _ _ _ _ hc1 hc2).mono ?_);rintro r x6 ⟨rfl,rfl⟩)
    | (refine wl_put1 rfl (.tmp 18) (.tmp 17) rfl HY2.out 0 rfl 0 rfl (by show 0 < 7;decide) (.slice A1 n n) rfl (by kernel_rfl) rfl ?_;intro x7 hz _;have HX9:Hid (OW w [boxO gb [.slice A1 n n,.int .i64 e.fam,.slice B m d,.int .i64 e.ts,.int .i64 e.seq,.int .i64 e.kind,.slice D v q],boxO gr [.slice none 0 0,.int .i64 0,.slice none 0 0,.int .i64 0,.int .i64 0,.int .i64 0,.slice none 0 0],clipO A1 e.row] x7):=Lib.hid hz;clear hz HY2))
   go_roundw
   case rel=>exact ⟨1,by omega,rfl,Lib.hid ⟨(fun h=>absurd h (by decide)),(fun _=>⟨A1,HCN.out,HX9.out⟩),(fun h=>absurd h (by decide)),(fun h=>absurd h (by decide))⟩⟩
   case measure=>decide
  case inr.inl =>
   replace hi:_=Value.int .i64 1:=hi
   subst hi
   obtain ⟨A1,h0,hx⟩:=HS.out.2.1 rfl
   have HX:=Lib.hid hx
   have HC0:=Lib.hid h0
   clear HS hx h0
   have ix:∀ w,(Instr.index 276 (.agg #[.pointer (some ⟨gb,0,none⟩),.pointer (some ⟨gb,2,none⟩),.pointer (some ⟨gb,6,none⟩)]) (.int .i64 1)).run Tryz.prog w = .ok (.pointer (some ⟨gb,2,none⟩)) w:=fun w=>ptr3 gb 1 (by decide) w
   have HN:=Lib.hid (HX.out.nilB 5)
   go_wp2_with (first
    | (refine wpList_load_cell rfl 34 (.tmp 14) rfl rfl (HX.out.cell (i:=0) (j:=2) rfl rfl) Tryz.isAgg34 ?_)
    | (at_builtin;go_must (refine wl_appB rfl (.const (.slice none 0 0)) (.tmp 15) rfl Tryz.u8s' HN.out 3 (n:=0) rfl rfl rfl _ _ m _ e.qual rfl (HE.out _ HX.out.up).qual.rb (by omega) ?_);intro B1 c9 x5 hz;rw [Nat.zero_add];have HY:=Lib.hid hz;have HCN:=Lib.hid (cat_of HY.out (i:=3) rfl);have HY2:=Lib.hid (HY.out.clip (i:=3) rfl);have hcp:=(HY.out.sl (i:=3) rfl (show ([] ++ e.qual).length=m from HLQ.out));have hc1:=hcp.cap;have hc2:=hcp.lim;clear hz hcp HX HN HY)
    | (go_at_call 195;go_must (refine (sclip_any _ _ _ _ hc1 hc2).mono ?_);rintro r x6 ⟨rfl,rfl⟩)
    | (refine wl_put1 rfl (.tmp 18) (.tmp 17) rfl HY2.out 0 rfl 2 rfl (by show 2 < 7;decide) (.slice B1 m m) rfl (by kernel_rfl) rfl ?_;intro x7 hz _;have HX9:Hid (OW w [boxO gb [.slice A1 n n,.int .i64 e.fam,.slice B1 m m,.int .i64 e.ts,.int .i64 e.seq,.int .i64 e.kind,.slice D v q],boxO gr [.slice none 0 0,.int .i64 0,.slice none 0 0,.int .i64 0,.int .i64 0,.int .i64 0,.slice none 0 0],clipO A1 e.row,clipO B1 e.qual] x7):=Lib.hid hz;clear hz HY2))
   go_roundw
   case rel=>exact ⟨2,by omega,rfl,Lib.hid ⟨(fun h=>absurd h (by decide)),(fun h=>absurd h (by decide)),(fun _=>⟨A1,B1,HC0.out,HCN.out,HX9.out⟩),(fun h=>absurd h (by decide))⟩⟩
   case measure=>decide
  case inr.inr.inl =>
   replace hi:_=Value.int .i64 2:=hi
   subst hi
   obtain ⟨A1,B1,h0,h1,hx⟩:=HS.out.2.2.1 rfl
   have HX:=Lib.hid hx
   have HC0:=Lib.hid h0
   have HC1:=Lib.hid h1
   clear HS hx h0 h1
   have ix:∀ w,(Instr.index 276 (.agg #[.pointer (some ⟨gb,0,none⟩),.pointer (some ⟨gb,2,none⟩),.pointer (some ⟨gb,6,none⟩)]) (.int .i64 2)).run Tryz.prog w = .ok (.pointer (some ⟨gb,6,none⟩)) w:=fun w=>ptr3 gb 2 (by decide) w
   have HN:=Lib.hid (HX.out.nilB 5)
   go_wp2_with (first
    | (refine wpList_load_cell rfl 34 (.tmp 14) rfl rfl (HX.out.cell (i:=0) (j:=6) rfl rfl) Tryz.isAgg34 ?_)
    | (at_builtin;go_must (refine wl_appB rfl (.const (.slice none 0 0)) (.tmp 15) rfl Tryz.u8s' HN.out 4 (n:=0) rfl rfl rfl _ _ v _ e.val rfl (HE.out _ HX.out.up).val.rb (by omega) ?_);intro D1 c9 x5 hz;rw [Nat.zero_add];have HY:=Lib.hid hz;have HCN:=Lib.hid (cat_of HY.out (i:=4) rfl);have HY2:=Lib.hid (HY.out.clip (i:=4) rfl);have hcp:=(HY.out.sl (i:=4) rfl (show ([] ++ e.val).length=v from HLV.out));have hc1:=hcp.cap;have hc2:=hcp.lim;clear hz hcp HX HN HY)
    | (go_at_call 195;go_must (refine (sclip_any _ _ _ _ hc1 hc2).mono ?_);rintro r x6 ⟨rfl,rfl⟩)
    | (refine wl_put1 rfl (.tmp 18) (.tmp 17) rfl HY2.out 0 rfl 6 rfl (by show 6 < 7;decide) (.slice D1 v v) rfl (by kernel_rfl) rfl ?_;intro x7 hz _;have HX9:Hid (OW w [boxO gb [.slice A1 n n,.int .i64 e.fam,.slice B1 m m,.int .i64 e.ts,.int .i64 e.seq,.int .i64 e.kind,.slice D1 v v],boxO gr [.slice none 0 0,.int .i64 0,.slice none 0 0,.int .i64 0,.int .i64 0,.int .i64 0,.slice none 0 0],clipO A1 e.row,clipO B1 e.qual,clipO D1 e.val] x7):=Lib.hid hz;clear hz HY2))
   go_roundw
   case rel=>exact ⟨3,by omega,rfl,Lib.hid ⟨(fun h=>absurd h (by decide)),(fun h=>absurd h (by decide)),(fun h=>absurd h (by decide)),(fun _=>⟨A1,B1,D1,HC0.out,HC1.out,HCN.out,HX9.out⟩)⟩⟩
   case measure=>decide
  case inr.inr.inr =>
   replace hi:_=Value.int .i64 3:=hi
   subst hi
   obtain ⟨A1,B1,D1,h1,h2,h3,h4⟩:=HS.out.2.2.2 rfl
   have HC:=Lib.hid (And.intro h1 (And.intro h2 h3))
   have HX:=Lib.hid h4
   clear HS h1 h2 h3 h4
   go_wp2_with (first
    | (refine wpList_load_row7 rfl 60 (.tmp 1) rfl rfl (HX.out.range (i:=0) rfl) ent_row5 ?_)
    | (refine wl_put rfl (.tmp 2) (.tmp 20) rfl HX.out 1 rfl rfl [.slice A1 n n,.int .i64 e.fam,.slice B1 m m,.int .i64 e.ts,.int .i64 e.seq,.int .i64 e.kind,.slice D1 v v] rfl rfl (by kernel_rfl) (by simp [Value.oneCell']) ?_;intro x9 hz _;have HY:=Lib.hid hz;clear hz))
   refine bodyPost_ret (results_rowL rfl _ _ gr [.slice A1 n n,.int .i64 e.fam,.slice B1 m m,.int .i64 e.ts,.int .i64 e.seq,.int .i64 e.kind,.slice D1 v v] rfl (HY.out.range (i:=1) rfl) (by kernel_rfl) (by kernel_rfl)) rfl ?_
   refine ⟨A1,B1,D1,by rw [HLR.out,HLQ.out,HLV.out],HC.out.1,HC.out.2.1,HC.out.2.2,HY.out.sub ((List.Sublist.refl _).cons _ |>.cons _)⟩
set_option maxRecDepth 100000 in
theorem len_any {x:World} {R g:Nat} {L:List Ent} (h:BkR x R g L):Calls Tryz.prog 150 #[.pointer (some ⟨g,0,none⟩)] x fun e x'=>e = .returned (.int .i64 (L.length:Nat))∧Below x.heap.size x x':=by
 obtain ⟨A,c,h1,_⟩:=h.c1
 obtain ⟨n,hn⟩:∃ z,z=L.length:=⟨_,rfl⟩
 rw [← hn] at h1 ⊢
 clear h hn
 go_enter Tryz.func150,Tryz.ntmps150
 go_wp2_with (refine wpList_load_cell rfl 24 (.tmp 5) rfl rfl h1 Tryz.isAgg24 ?_)
 go_ret
 exact ⟨rfl,Below.refl _ _⟩
def AtP (L:List Ent) (i:Int) (x:World) (r:Ending) (z:World):Prop :=
 (∃ (k:Nat) (e:Ent),i=(k:Int)∧L[k]?=some e∧OwnP (fun v => .tuple #[v,.int .i64 0]) e x r z) ∨
 ((i < 0∨(L.length:Int)≤i)∧r = .returned (.tuple #[entV none 0 0 none 0 0 none 0 0 noEnt,.int .i64 1])∧Below x.heap.size x z)
theorem OwnP.own {mk:Value→Value} {e:Ent} {w x:World} {r:Ending} (h:OwnP mk e w r x):∃ A B D,r = .returned (mk (entV A e.row.length e.row.length B e.qual.length e.qual.length D e.val.length e.val.length e))∧CAt A e.row∧CAt B e.qual∧CAt D e.val∧OW w [clipO A e.row,clipO B e.qual,clipO D e.val] x:=h
set_option maxRecDepth 100000 in
set_option maxHeartbeats 4000000 in
theorem at_any {x:World} {R g:Nat} {L:List Ent} (h:BkR x R g L) (hL:∀ e,e ∈ L→e.row.length≤140737488355000∧e.qual.length≤140737488355000∧e.val.length≤140737488355000) (i:Int) :
  Calls Tryz.prog 151 #[.pointer (some ⟨g,0,none⟩),.int .i64 i] x (AtP L i x):=by
 have HR:=Lib.hid (fun z (hz:Below x.heap.size x z)=>h.later hz)
 obtain ⟨A,c,h1,he⟩:=h.c1
 obtain ⟨n,hn⟩:∃ z,z=L.length:=⟨_,rfl⟩
 rw [← hn] at h1 he
 have hg:=h.lt
 have HC:Hid (∀ z,Below x.heap.size x z→z.cell? ⟨g,1,none⟩=some (.slice A n c)):=Lib.hid fun z hz=>(hz.cell (p:=⟨g,1,none⟩) hg).trans h1
 have HES:Hid (∀ z,Below x.heap.size x z→Ens z A n L):=Lib.hid fun z hz=>he.later hz
 have HNL:=Lib.hid hn
 have HLL:=Lib.hid hL
 have HX:=Lib.hid (OW.nil x)
 clear h h1 he hn hg hL
 by_cases hi:i < 0
 case pos =>
  have hd:decide (i < 0)=true:=decide_eq_true hi
  go_enter Tryz.func151,Tryz.ntmps151
  go_wp2_with (first
   | (refine wl_alloc rfl rfl [.slice none 0 0,.int .i64 0,.slice none 0 0,.int .i64 0,.int .i64 0,.int .i64 0,.slice none 0 0] (.inl (by kernel_rfl)) HX.out ?_;intro gr x2 hz _;replace HX:=Lib.hid hz;clear hz)
   | (refine wl_put rfl (.tmp 4) (.tmp 17) rfl HX.out 0 rfl rfl [.slice none 0 0,.int .i64 0,.slice none 0 0,.int .i64 0,.int .i64 0,.int .i64 0,.slice none 0 0] rfl rfl (by kernel_rfl) (by simp [Value.oneCell']) ?_;intro x9 hz _;have HY:=Lib.hid hz;clear hz))
  refine bodyPost_ret (results_rowL1 rfl _ _ gr [.slice none 0 0,.int .i64 0,.slice none 0 0,.int .i64 0,.int .i64 0,.int .i64 0,.slice none 0 0] rfl (HY.out.range (i:=0) rfl) (by kernel_rfl) (by kernel_rfl)) rfl ?_
  exact .inr ⟨.inl hi,rfl,HY.out.up⟩
 have hd:decide (i < 0)=false:=decide_eq_false hi
 obtain ⟨k,rfl⟩:∃ k:Nat,i=(k:Int):=⟨i.toNat,by omega⟩
 by_cases hk:n≤k
 case pos =>
  have hd2:decide ((k:Int) ≥ (n:Int))=true:=decide_eq_true (by omega)
  have HK:Hid (n≤k):=Lib.hid hk
  go_enter Tryz.func151,Tryz.ntmps151
  go_wp2_with (first
   | (refine wl_alloc rfl rfl [.slice none 0 0,.int .i64 0,.slice none 0 0,.int .i64 0,.int .i64 0,.int .i64 0,.slice none 0 0] (.inl (by kernel_rfl)) HX.out ?_;intro gr x2 hz _;replace HX:=Lib.hid hz;clear hz)
   | (refine wpList_load_cell rfl 24 (.tmp 12) rfl rfl (HC.out _ HX.out.up) Tryz.isAgg24 ?_)
   | (refine wl_put rfl (.tmp 4) (.tmp 17) rfl HX.out 0 rfl rfl [.slice none 0 0,.int .i64 0,.slice none 0 0,.int .i64 0,.int .i64 0,.int .i64 0,.slice none 0 0] rfl rfl (by kernel_rfl) (by simp [Value.oneCell']) ?_;intro x9 hz _;have HY:=Lib.hid hz;clear hz))
  refine bodyPost_ret (results_rowL1 rfl _ _ gr [.slice none 0 0,.int .i64 0,.slice none 0 0,.int .i64 0,.int .i64 0,.int .i64 0,.slice none 0 0] rfl (HY.out.range (i:=0) rfl) (by kernel_rfl) (by kernel_rfl)) rfl ?_
  exact .inr ⟨.inr (by have:=HK.out;rw [← HNL.out];omega),rfl,HY.out.up⟩
 have hd2:decide ((k:Int) ≥ (n:Int))=false:=decide_eq_false (by omega)
 obtain ⟨b,o,Ar,ec,B,d,D,q,e,rfl,hbl,hek,hrg,hen⟩:=(HES.out x (Below.refl _ _)).at_ (show k < n by omega)
 have HRG:Hid (∀ z,Below x.heap.size x z→z.rangeAt b (o + k * 7) [.slice Ar e.row.length ec,.int .i64 e.fam,.slice B e.qual.length d,.int .i64 e.ts,.int .i64 e.seq,.int .i64 e.kind,.slice D e.val.length q]):=Lib.hid fun z hz j v hj=>(hz.cell (p:=⟨b,_,none⟩) hbl).trans (hrg j v hj)
 have HEN:Hid (∀ z,Below x.heap.size x z→En z Ar e.row.length ec B e.qual.length d D e.val.length q e):=Lib.hid fun z hz=>hen.later hz
 have HEK:=Lib.hid hek
 have HEB:=Lib.hid (HLL.out e (List.mem_of_getElem? hek))
 have i1:(0:Int)≤(k:Int):=by omega
 have i2:(k:Int) < (n:Int):=by omega
 clear hek hrg hen
 go_enter Tryz.func151,Tryz.ntmps151
 go_wp2_with (first
  | (refine wl_alloc rfl rfl [.slice none 0 0,.int .i64 0,.slice none 0 0,.int .i64 0,.int .i64 0,.int .i64 0,.slice none 0 0] (.inl (by kernel_rfl)) HX.out ?_;intro gr x2 hz _;replace HX:=Lib.hid hz;clear hz)
  | (refine wpList_load_cell rfl 24 (.tmp 12) rfl rfl (HC.out _ HX.out.up) Tryz.isAgg24 ?_)
  | (refine wpList_load_cell rfl 24 (.tmp 20) rfl rfl (HC.out _ HX.out.up) Tryz.isAgg24 ?_)
  | (refine wpList_load_at rfl 60 (.tmp 23) rfl rfl (HRG.out _ HX.out.up) ent_row5 ?_)
  | (go_at_call 153;go_must (refine (own_any e Ar _ ec B _ d D _ q _ (HEN.out _ HX.out.up) HEB.out).mono ?_);rintro r x5 ⟨A1,B1,D1,rfl,hc1,hc2,hc3,hx⟩;have HC1:=Lib.hid (And.intro hc1 (And.intro hc2 hc3));have HY:=Lib.hid (HX.out.app hx);clear hc1 hc2 hc3 hx HX)
  | (refine wl_put rfl (.tmp 4) (.tmp 25) rfl HY.out 0 rfl rfl [.slice A1 e.row.length e.row.length,.int .i64 e.fam,.slice B1 e.qual.length e.qual.length,.int .i64 e.ts,.int .i64 e.seq,.int .i64 e.kind,.slice D1 e.val.length e.val.length] rfl rfl (by kernel_rfl) (by simp [Value.oneCell']) ?_;intro x9 hz _;have HQ:=Lib.hid hz;clear hz))
 refine bodyPost_ret (results_rowL1 rfl _ _ gr [.slice A1 e.row.length e.row.length,.int .i64 e.fam,.slice B1 e.qual.length e.qual.length,.int .i64 e.ts,.int .i64 e.seq,.int .i64 e.kind,.slice D1 e.val.length e.val.length] rfl (HQ.out.range (i:=0) rfl) (by kernel_rfl) (by kernel_rfl)) rfl ?_
 exact .inl ⟨k,e,rfl,HEK.out,A1,B1,D1,rfl,HC1.out.1,HC1.out.2.1,HC1.out.2.2,HQ.out.sub ((List.Sublist.refl _).cons _)⟩
theorem open_none {b:List UInt8} {k:Int} (ho:openE b=(none,k)) (A:Option Addr) (n c:Nat) (w:World) (hs:Sl w A n c b) (ht:TabAt 0 w) :
  Calls Tryz.prog 149 #[.slice A n c] w fun e z=>e = .returned (.tuple #[.pointer none,.int .i64 k])∧Below w.heap.size w z :=
 (open_any b A n c w hs ht).mono fun e z h=>by
  rcases h with ⟨L',g,os,h1,_⟩ | ⟨_,h2,h3⟩
  ·rw [ho] at h1;cases h1
  ·rw [ho] at h2;exact ⟨h2,h3⟩
theorem at_in {x:World} {R g:Nat} {L:List Ent} (h:BkR x R g L) (hL:∀ e,e ∈ L→e.row.length≤140737488355000∧e.qual.length≤140737488355000∧e.val.length≤140737488355000) {k:Nat} {e:Ent} (hk:L[k]?=some e) :
  Calls Tryz.prog 151 #[.pointer (some ⟨g,0,none⟩),.int .i64 k] x (OwnP (fun v => .tuple #[v,.int .i64 0]) e x) :=
 (at_any h hL (k:Int)).mono fun r z hp=>by
  rcases hp with ⟨k',e',h1,h2,h3⟩ | ⟨h1,_⟩
  ·obtain rfl:k=k':=by omega
   rw [hk] at h2
   injection h2 with h2
   subst h2
   exact h3
  ·have:=(List.getElem?_eq_some_iff.1 hk).1;omega
def HandE (e:Ent) (vs:Array Value) (W W1:World):Prop:=∃ A B D,vs=#[entV A e.row.length e.row.length B e.qual.length e.qual.length D e.val.length e.val.length e]∧CAt A e.row∧CAt B e.qual∧CAt D e.val∧OW W [clipO A e.row,clipO B e.qual,clipO D e.val] W1
theorem HandE.ok {e:Ent} {vs:Array Value} {W W1:World} (h:HandE e vs W W1):vs.size=1∧Below W.heap.size W W1:=by
 obtain ⟨A,B,D,rfl,_,_,_,h⟩:=h
 exact ⟨rfl,h.up⟩
theorem open_bk {b:List UInt8} {L:List Ent} (ho:openE b=(some L,0)) (A:Option Addr) (n c:Nat) (w:World) (hs:Sl w A n c b) (ht:TabAt 0 w) :
  Calls Tryz.prog 149 #[.slice A n c] w fun e z=>∃ g os,e = .returned (.tuple #[.pointer (some ⟨g,0,none⟩),.int .i64 0])∧Bk5 (resB b) L g os∧OW w os z :=
 (open_any b A n c w hs ht).mono fun e z h=>by
  rcases h with ⟨L',g,os,h1,h2,h3,h4⟩ | ⟨h1,_⟩
  ·rw [ho] at h1
   injection h1 with h1
   subst h1
   exact ⟨g,os,h2,h3,h4⟩
  ·rw [ho] at h1;cases h1
theorem ok_lens {e:Ent} (h:checkE e=0):e.row.length≤140737488355000∧e.qual.length≤140737488355000∧e.val.length≤140737488355000:=by
 have h1:=ok_of h
 have h2:=h1.row
 have h3:=h1.qual
 have h4:=h1.val
 omega
theorem write_no {o:OptR} {L:List Ent} {k:Int} (h:refuseR o L=k) (hk:k ≠ 0):writeR o L=([],k):=by
 unfold writeR;rw [h,if_pos hk]
theorem opt_no {o:OptR} {L:List Ent} (h:optOk o=false):writeR o L=([],74):=write_no (by unfold refuseR;rw [if_pos h]) (by decide)
theorem nil_no {o:OptR} {L:List Ent} (h:optOk o=true) (hL:L=[]):writeR o L=([],71):=write_no (by unfold refuseR;rw [if_neg (by rw [h];decide),if_pos hL]) (by decide)
theorem look_no {o:OptR} {L:List Ent} {k:Int} (h:optOk o=true) (hL:L ≠ []) (hk:lookE o.index none L=k) (h0:k ≠ 0):writeR o L=([],k):=write_no (by unfold refuseR;rw [if_neg (by rw [h];decide),if_neg hL,hk]) h0
theorem refuse_none {o:OptR} {L:List Ent} (h:optOk o=true) (hL:L ≠ []) (hk:lookE o.index none L=0):refuseR o L=0:=by unfold refuseR;rw [if_neg (by rw [h];decide),if_neg hL,hk]
theorem wlong_no {o:OptR} {L:List Ent} (h:refuseR o L=0) (hl:16777216 < (runBy o L).length):writeR o L=([],2):=by unfold writeR;rw [if_neg (fun hh=>hh h),if_pos hl]
theorem write_ok {o:OptR} {L:List Ent} (h:refuseR o L=0) (hl:¬ 16777216 < (runBy o L).length):writeR o L=(runBy o L,0):=by unfold writeR;rw [if_neg (fun hh=>hh h),if_neg hl]
theorem take_more {L:List Ent} {i j:Nat} {e:Ent} (hij:i≤j) (h:L[j]?=some e):(L.drop i).take (j + 1 - i)=(L.drop i).take (j - i) ++ [e]:=by
 have h1:(L.drop i)[j - i]?=some e:=by rw [List.getElem?_drop,show i + (j - i)=j from by omega];exact h
 rw [show j + 1 - i=(j - i) + 1 from by omega]
 exact take_snoc h1
theorem drop_one {L:List Ent} {j:Nat} {e:Ent} (h:L[j]?=some e):L.drop j=e::L.drop (j + 1):=by
 obtain ⟨hi,he⟩:=List.getElem?_eq_some_iff.1 h
 rw [← he];exact List.drop_eq_getElem_cons hi
theorem asc_mid {L:List Ent} (h:AscE L) (i k:Nat):AscE ((L.drop i).take k):=h.sublist ((List.take_sublist _ _).trans (List.drop_sublist _ _))
theorem add_fits {t:Nat} {now:List Ent} {e:Ent} (ht:t≤65536) (hs:¬ fullR t now) (he:checkE e=0) (ha:AscE (now ++ [e])):addC 16 now e=0:=by
 have ho:=ok_of he
 unfold addC
 rw [if_neg (by simp [he]),if_neg (by rw [lastOk_of ha];decide),if_neg]
 rw [size_step]
 have h1:=(alike_le 16 (runB 16 now) (keyE e)).2
 have h2:=rowK_le h1 (keyE_len ho) ho.val.1
 have h3:sizeS (runB 16 now)≤65536:=by
  by_cases hn:now=[]
  ·rw [hn];decide
  ·have:=Nat.lt_of_not_le fun h=>hs ⟨hn,h⟩;omega
 split <;> omega
theorem add_list {R:Nat} {now:List Ent} {e:Ent} (h:addC R now e=0):addL R now e=now ++ [e]:=by unfold addL;rw [if_pos h]
theorem keyB_le {c:List Ent} (h:ChOk c):(keyB (firstK c)).length≤1058∧(keyB (lastK c)).length≤1058:=by
 obtain ⟨a,_,ma,e1⟩:=h.first
 obtain ⟨b,_,mb,e2⟩:=h.last
 have ka:=keyE_len (ok_of (h.chk a ma))
 have kb:=keyE_len (ok_of (h.chk b mb))
 rw [keyB_len,keyB_len,e1,e2]
 have h1:=uintB_10 (v:=(keyE a).length) (by omega)
 have h2:=uintB_10 (v:=(keyE b).length) (by omega)
 omega
theorem partsR_le:∀ {cs:List (List Ent)},(∀ c,c ∈ cs→ChOk c)→(partsR cs).length≤2200 * cs.length
 | [],_=>Nat.le_refl _
 | c::cs,h=>by
  have hc:=h c (.head _)
  have h1:=partsR_le fun d hd=>h d (.tail _ hd)
  have h2:=keyB_le hc
  have h3:=build_len hc.bld hc.ne
  have h4:=uintB_10 (v:=(layB 16 c).length) (by omega)
  rw [partsR_cons,List.length_append,List.length_cons]
  unfold partR
  rw [List.length_append,List.length_append]
  omega
theorem headR_app (a b:List (List Ent)):headR (a ++ b)=headR a ++ blocksR b:=by unfold headR blocksR;rw [List.flatMap_append,List.append_assoc]
theorem headR_snoc (a:List (List Ent)) (c:List Ent):headR (a ++ [c])=headR a ++ layB 16 c:=by rw [headR_app];unfold blocksR;simp
theorem runC_head (o:OptR) (L:List Ent) (cs:List (List Ent)):(headR cs).length≤(runC o L cs).length:=by
 unfold runC;simp only [List.length_append];omega
theorem nums_val (o:OptR) (L:List Ent) (cs:List (List Ent)):numsR o L cs=[L.length,o.index.toNat,o.low.toNat,o.clock.toNat,cs.length,(headR cs).length,(headR cs ++ sumdB (filtR o L)).length]:=rfl
theorem risBs_take {ns:List Nat} {k v:Nat} (h:ns[k]?=some v):risBs (ns.take (k + 1))=risBs (ns.take k) ++ risB v:=by
 rw [take_snoc h,risBs_app];unfold risBs;simp
theorem filt_len {o:OptR} {L:List Ent} (h:optOk o=true) (hn:L.length≤1000000):(filtR o L).length≤3000000:=by
 obtain ⟨⟨b1,b2,b3,b4⟩,_⟩:=optOk.iff h
 unfold filtR
 split
 ·have h0:buildE o.bits (rowsE L)=0:=by unfold buildE;rw [if_neg (by omega),if_neg (by have:=rowsE_le L;omega)]
  rw [buildB_length]
  have:=buildM_le h0
  omega
 ·exact Nat.zero_le _
def pcsG (done:List PcR) (r:Option (List PcR×Nat×Nat)):Option (List PcR×Nat×Nat):=match r with
 | none=>none
 | some (l,q)=>some (done ++ l,q)
def lastB (done:List PcR):Option (List UInt8):=done.getLast?.map PcR.b
theorem pcsG_nil (r:Option (List PcR×Nat×Nat)):pcsG [] r=r:=by
 cases r with
 | none=>rfl
 | some v=>rfl
theorem pcsF_none {x:List UInt8} {end' n p at':Nat} {prev:Option (List UInt8)} (h:pc1 x p at' end' prev=none):pcsF x end' (n + 1) p at' prev=none:=by
 show (match pc1 x p at' end' prev with
  | none=>none
  | some (c,q)=>match pcsF x end' n q c.hi (some c.b) with
   | none=>none
   | some (l,r)=>some (c::l,r))=none
 rw [h]
theorem pcsF_some {x:List UInt8} {end' n p at' q:Nat} {prev:Option (List UInt8)} {c:PcR} (h:pc1 x p at' end' prev=some (c,q)) (done:List PcR):pcsG done (pcsF x end' (n + 1) p at' prev)=pcsG (done ++ [c]) (pcsF x end' n q c.hi (some c.b)):=by
 have h1:pcsF x end' (n + 1) p at' prev=(match pcsF x end' n q c.hi (some c.b) with
   | none=>none
   | some (l,r)=>some (c::l,r)):=by
  show (match pc1 x p at' end' prev with
   | none=>none
   | some (c,q)=>match pcsF x end' n q c.hi (some c.b) with
    | none=>none
    | some (l,r)=>some (c::l,r))=_
  rw [h]
 rw [h1]
 cases pcsF x end' n q c.hi (some c.b) with
 | none=>rfl
 | some v=>obtain ⟨l,r⟩:=v;show some (done ++ c::l,r)=some ((done ++ [c]) ++ l,r);rw [List.append_assoc];rfl
theorem readU_le (l:List UInt8) (a:Int):(readU l a).2.1≤l.length:=by
 by_cases h:(readU l a).2.2=0
 ·exact (readU_end l a h).1
 ·unfold readU at h ⊢
  split
  ·exact Nat.zero_le _
  ·rename_i h1
   split
   ·rename_i h2
    rw [if_neg h1,if_pos h2] at h
    exact absurd rfl h
   ·exact Nat.zero_le _
theorem pc1_by {x a b:List UInt8} {p at' end' p1 e1 p2 e2 sz p3 e3:Nat} {prev:Option (List UInt8)} (h1:readBy x (p:Int) (x.length:Int)=(a,p1,e1)) (h2:readBy x (p1:Int) (x.length:Int)=(b,p2,e2)) (h3:readU x (p2:Int)=(sz,p3,e3)) :
  pc1 x p at' end' prev=if e1 ≠ 0 then none else if e2 ≠ 0 then none else if e3 ≠ 0 then none else if sz=0∨end' - at' < sz then none else if (ParseKeyE a).2 ≠ 0∨(ParseKeyE b).2 ≠ 0∨0 < cmpB a b then none else if behR prev a=true then none else some (⟨a,b,at',at' + sz⟩,p3):=by
 unfold pc1
 rw [h1]
 dsimp only
 rw [h2]
 dsimp only
 rw [h3]
def idxOk (x:List UInt8) (end':Nat) (r:Option (List PcR×Nat×Nat)):Option (List PcR):=match r with
 | none=>none
 | some (l,p,at')=>if p=x.length∧at'=end' then some l else none
theorem pcsO_by {x:List UInt8} {n end' v p e:Nat} (h:readU x 0=(v,p,e)):pcsO x n end'=if e ≠ 0∨v ≠ n then none else idxOk x end' (pcsF x end' n p 8 none):=by
 unfold pcsO;rw [h];rfl
theorem pc1_far {x:List UInt8} {p at' end' q:Nat} {prev:Option (List UInt8)} {c:PcR} (h:pc1 x p at' end' prev=some (c,q)):p < q∧q≤x.length:=by
 obtain ⟨a,p1,e1,h1⟩:∃ a p1 e1,readBy x (p:Int) (x.length:Int)=(a,p1,e1):=⟨_,_,_,rfl⟩
 obtain ⟨b,p2,e2,h2⟩:∃ b p2 e2,readBy x (p1:Int) (x.length:Int)=(b,p2,e2):=⟨_,_,_,rfl⟩
 obtain ⟨sz,p3,e3,h3⟩:∃ v p3 e3,readU x (p2:Int)=(v,p3,e3):=⟨_,_,_,rfl⟩
 rw [pc1_by h1 h2 h3] at h
 split at h
 ·cases h
 rename_i g1
 split at h
 ·cases h
 rename_i g2
 split at h
 ·cases h
 rename_i g3
 split at h
 ·cases h
 split at h
 ·cases h
 split at h
 ·cases h
 injection h with h
 injection h with _ h
 subst h
 have k1:=readBy_end x p (x.length:Int) (by rw [h1];exact Decidable.byContradiction g1)
 have k2:=readBy_end x p1 (x.length:Int) (by rw [h2];exact Decidable.byContradiction g2)
 have k3:=readU_end x (p2:Int) (by rw [h3];exact Decidable.byContradiction g3)
 rw [h1] at k1
 rw [h2] at k2
 rw [h3] at k3
 have m1:p < p1:=k1.2.2.2.1
 have m2:p1 < p2:=k2.2.2.2.1
 have m3:p2 < p3:=k3.2.2
 have m4:p3≤x.length:=k3.1
 omega
theorem pcsF_len {x:List UInt8} {end':Nat}:∀ {n p at':Nat} {prev:Option (List UInt8)} {l:List PcR} {q a:Nat},pcsF x end' n p at' prev=some (l,q,a)→l.length=n∧p + n≤q
 | 0,p,at',prev,l,q,a,h=>by
  have h:some (([]:List PcR),p,at')=some (l,q,a):=h
  injection h with h;injection h with h1 h;injection h with h2 h3
  subst h1 h2;exact ⟨rfl,Nat.le_refl _⟩
 | n + 1,p,at',prev,l,q,a,h=>by
  have h:(match pc1 x p at' end' prev with
   | none=>none
   | some (c,q)=>match pcsF x end' n q c.hi (some c.b) with
    | none=>none
    | some (l,r)=>some (c::l,r))=some (l,q,a):=h
  cases hc:pc1 x p at' end' prev with
  | none=>rw [hc] at h;cases h
  | some v =>
   obtain ⟨c,q0⟩:=v
   rw [hc] at h
   dsimp only at h
   cases hf:pcsF x end' n q0 c.hi (some c.b) with
   | none=>rw [hf] at h;cases h
   | some v =>
    obtain ⟨l0,q1,a1⟩:=v
    rw [hf] at h
    injection h with h;injection h with h1 h;injection h with h2 h3
    subst h1 h2
    have ih:=pcsF_len hf
    have hfar:=(pc1_far hc).1
    rw [List.length_cons]
    omega
theorem pcsO_len {x:List UInt8} {n end':Nat} {l:List PcR} (h:pcsO x n end'=some l):l.length=n∧n≤x.length:=by
 obtain ⟨v,p,e,hr⟩:∃ v p e,readU x 0=(v,p,e):=⟨_,_,_,rfl⟩
 rw [pcsO_by hr] at h
 split at h
 ·cases h
 cases hf:pcsF x end' n p 8 none with
 | none=>rw [hf] at h;cases h
 | some v =>
  obtain ⟨l0,q,a⟩:=v
  rw [hf] at h
  have h:(if q=x.length∧a=end' then some l0 else none)=some l:=h
  split at h
  ·rename_i hh
   injection h with h
   subst h
   have:=pcsF_len hf
   omega
  ·cases h
theorem openP_no {b:List UInt8} (h:numsO b=none):openP b=none:=by
 unfold openP
 split
 ·rfl
 ·rw [h]
theorem openP_pre {b:List UInt8} (h:b.take 8 ≠ magR):openP b=none:=by unfold openP;rw [if_pos h]
theorem openP_is {b f:List UInt8} (h:b.take 8=magR) (hf:footO b=some f) (ha:allOk f=true):openP b=openN b [numAt f 0,numAt f 1,numAt f 2,numAt f 3,numAt f 4,numAt f 5,numAt f 6]:=by
 unfold openP
 rw [if_neg (fun hh=>hh h)]
 unfold numsO
 rw [hf]
 dsimp only
 rw [ha]
 rfl
theorem openN_is {b:List UInt8} (count index low clock blocks fAt iAt:Nat):openN b [count,index,low,clock,blocks,fAt,iAt] =
  if sealI index low clock=false∨blocks < 1∨count < blocks then none
  else if fAt < 8∨iAt < fAt + 4∨b.length < iAt + 72 then none
  else if unsB (cutS b fAt (iAt - fAt))=false∨unsB (cutS b iAt (b.length - 68 - iAt))=false then none
  else if cutS b fAt (iAt - fAt - 4) ≠ []∧isF (cutS b fAt (iAt - fAt - 4))=false then none
  else match pcsO (cutS b iAt (b.length - 72 - iAt)) blocks fAt with
   | none=>none
   | some l=>some ⟨b,count,index,low,clock,cutS b fAt (iAt - fAt - 4),l⟩:=rfl
theorem openN_many {b:List UInt8} {count index low clock blocks fAt iAt:Nat} (h:b.length < blocks):openN b [count,index,low,clock,blocks,fAt,iAt]=none:=by
 rw [openN_is]
 split
 ·rfl
 split
 ·rfl
 split
 ·rfl
 split
 ·rfl
 split
 ·rfl
 rename_i l hl
 have h1:=(pcsO_len hl).2
 have h2:(cutS b iAt (b.length - 72 - iAt)).length≤b.length:=by unfold cutS;rw [List.length_take,List.length_drop];omega
 omega
theorem openR_none {b:List UInt8} (hl:b.length≤16777216) (h:openP b=none):openR7 b=(none,72):=by unfold openR7;rw [if_neg (by omega),h]
theorem openR_some {b:List UInt8} {r:RunR} (hl:b.length≤16777216) (h:openP b=some r):openR7 b=(some r,0):=by unfold openR7;rw [if_neg (by omega),h]
theorem openR_long {b:List UInt8} (hl:16777216 < b.length):openR7 b=(none,2):=by unfold openR7;rw [if_pos hl]
structure PcIn (a z:Nat) (p:PcR):Prop where
  lo:a≤p.lo
  mid:p.lo < p.hi
  hi:p.hi≤z
  ka:(ParseKeyE p.a).2=0
  kb:(ParseKeyE p.b).2=0
theorem PcIn.wide {a a' z:Nat} {p:PcR} (h:PcIn a z p) (ha:a'≤a):PcIn a' z p:=⟨Nat.le_trans ha h.lo,h.mid,h.hi,h.ka,h.kb⟩
theorem pc1_in {x:List UInt8} {p at' end' q:Nat} {prev:Option (List UInt8)} {c:PcR} (h:pc1 x p at' end' prev=some (c,q)):PcIn at' end' c∧c.lo=at':=by
 obtain ⟨a,p1,e1,h1⟩:∃ a p1 e1,readBy x (p:Int) (x.length:Int)=(a,p1,e1):=⟨_,_,_,rfl⟩
 obtain ⟨b,p2,e2,h2⟩:∃ b p2 e2,readBy x (p1:Int) (x.length:Int)=(b,p2,e2):=⟨_,_,_,rfl⟩
 obtain ⟨sz,p3,e3,h3⟩:∃ s p3 e3,readU x (p2:Int)=(s,p3,e3):=⟨_,_,_,rfl⟩
 rw [pc1_by h1 h2 h3] at h
 split at h
 ·cases h
 split at h
 ·cases h
 split at h
 ·cases h
 split at h
 ·cases h
 rename_i hs
 split at h
 ·cases h
 rename_i hk
 split at h
 ·cases h
 injection h with h
 injection h with h _
 subst h
 have hk1:(ParseKeyE a).2=0:=Decidable.byContradiction fun hh=>hk (.inl hh)
 have hk2:(ParseKeyE b).2=0:=Decidable.byContradiction fun hh=>hk (.inr (.inl hh))
 exact ⟨⟨Nat.le_refl _,by show at' < at' + sz;omega,by show at' + sz≤end';omega,hk1,hk2⟩,rfl⟩
theorem pcsF_in {x:List UInt8} {end':Nat}:∀ {n p at':Nat} {prev:Option (List UInt8)} {l:List PcR} {r:Nat×Nat},pcsF x end' n p at' prev=some (l,r)→∀ c ∈ l,PcIn at' end' c
 | 0,_,_,_,l,r,h,c,hc=>by
  injection h with h
  injection h with h _
  subst h
  cases hc
 | n + 1,p,at',prev,l,r,h,c,hc=>by
  cases h1:pc1 x p at' end' prev with
  | none=>rw [pcsF_none h1] at h;cases h
  | some v =>
   obtain ⟨c1,q⟩:=v
   have h2:=pcsF_some (n:=n) h1 []
   rw [pcsG_nil,h] at h2
   have h3:=pc1_in h1
   cases h4:pcsF x end' n q c1.hi (some c1.b) with
   | none=>rw [h4] at h2;cases h2
   | some v2 =>
    obtain ⟨l2,r2⟩:=v2
    rw [h4] at h2
    injection h2 with h2
    injection h2 with h2 _
    subst h2
    rcases List.mem_append.1 hc with hc | hc
    ·rcases List.mem_cons.1 hc with rfl | hc
     ·exact h3.1
     ·cases hc
    ·exact (pcsF_in h4 c hc).wide (by have:=h3.1.mid;have:=h3.1.lo;omega)
theorem pcsO_in {x:List UInt8} {n end':Nat} {l:List PcR} (h:pcsO x n end'=some l):∀ c ∈ l,PcIn 8 end' c:=by
 intro c hc
 unfold pcsO at h
 split at h
 ·cases h
 split at h
 ·cases h
 rename_i l' p at' hp
 split at h
 ·injection h with h
  subst h
  exact pcsF_in hp c hc
 ·cases h
theorem openR7_in {b:List UInt8} {r:RunR} (h:openR7 b=(some r,0)):r.bytes=b∧b.length≤16777216∧∀ c ∈ r.ps,PcIn 8 b.length c:=by
 unfold openR7 at h
 split at h
 ·cases h
 rename_i hlen
 split at h
 ·cases h
 rename_i r' hr
 injection h with h _
 injection h with h
 subst h
 unfold openP at hr
 split at hr
 ·cases hr
 split at hr
 ·cases hr
 rename_i ns hns
 unfold openN at hr
 split at hr
 ·split at hr
  ·cases hr
  split at hr
  ·cases hr
  rename_i hb
  split at hr
  ·cases hr
  split at hr
  ·cases hr
  split at hr
  ·cases hr
  rename_i l hl
  injection hr with hr
  subst hr
  refine ⟨rfl,by omega,fun c hc=>?_⟩
  have h1:=pcsO_in hl c hc
  exact ⟨h1.lo,h1.mid,by have:=h1.hi;omega,h1.ka,h1.kb⟩
 ·cases hr
structure BlkF (p:PcR) (L:List Ent):Prop where
  ne:L ≠ []
  chk:∀ e,e ∈ L→checkE e=0
  asc:AscE L
  fst:firstK L=p.a
  lst:lastK L=p.b
theorem blkR_facts {r:RunR} {p:PcR} {L:List Ent} (h:blkR r p=some L):BlkF p L:=by
 unfold blkR at h
 cases ho:openE (cutS r.bytes p.lo (p.hi - p.lo)) with
 | mk o k =>
  rw [ho] at h
  cases o with
  | none=>cases h
  | some L' =>
   dsimp only at h
   split at h
   ·rename_i hk
    injection h with h
    subst h
    have h1:(openE (cutS r.bytes p.lo (p.hi - p.lo))).1=some L':=by rw [ho]
    obtain ⟨hb,_⟩:=openE_ok h1
    obtain ⟨_,_,_,hne,_,hc⟩:=build_parts hb
    refine ⟨hne,hc,?_,hk.1,hk.2⟩
    have ha:=build_asc hb
    unfold Asc at ha
    rw [List.pairwise_map] at ha
    exact ha.imp_of_mem fun {a b} ma mb hab=>by rwa [key_sorts (ok_of (hc a ma)) (ok_of (hc b mb))] at hab
   ·cases h
def skipE (t:Ent) (L:List Ent):List Ent:=L.dropWhile fun x=>decide (cmpE x t < 0)
def restF (r:RunR):Option Ent→List PcR→List Ent×Bool
 | _,[]=>([],true)
 | sk,p::l=>match blkR r p with
  | none=>([],false)
  | some L=>match sk with
   | none=>(L ++ (restF r none l).1,(restF r none l).2)
   | some t=>if skipE t L=[] then restF r (some t) l else (skipE t L ++ (restF r none l).1,(restF r none l).2)
theorem restF_all (r:RunR):∀ l:List PcR,restF r none l=allF r l
 | []=>rfl
 | p::l=>by
  unfold restF allF
  cases blkR r p with
  | none=>rfl
  | some L=>dsimp only;rw [restF_all r l]
theorem restF_bad {r:RunR} {sk:Option Ent} {p:PcR} {l:List PcR} (h:blkR r p=none):restF r sk (p::l)=([],false):=by
 unfold restF;rw [h]
theorem restF_none {r:RunR} {p:PcR} {l:List PcR} {L:List Ent} (h:blkR r p=some L):restF r none (p::l)=(L ++ (restF r none l).1,(restF r none l).2):=by
 rw [restF];rw [h]
theorem restF_skip {r:RunR} {t:Ent} {p:PcR} {l:List PcR} {L:List Ent} (h:blkR r p=some L) (hs:skipE t L=[]):restF r (some t) (p::l)=restF r (some t) l:=by
 rw [restF];rw [h];dsimp only;rw [if_pos hs]
theorem restF_some {r:RunR} {t:Ent} {p:PcR} {l:List PcR} {L:List Ent} (h:blkR r p=some L) (hs:skipE t L ≠ []):restF r (some t) (p::l)=(skipE t L ++ (restF r none l).1,(restF r none l).2):=by
 rw [restF];rw [h];dsimp only;rw [if_neg hs]
structure PcOk (p:PcR):Prop where
  ka:(ParseKeyE p.a).2=0
  kb:(ParseKeyE p.b).2=0
  le:cmpB p.a p.b≤0
def PsAsc (l:List PcR):Prop:=(∀ p,p ∈ l→PcOk p)∧l.Pairwise fun p q=>cmpB p.b q.a < 0
theorem cmpB_lt_le {a b c:List UInt8} (h1:cmpB a b < 0) (h2:cmpB b c≤0):cmpB a c < 0:=by
 rcases Int.lt_or_eq_of_le h2 with h | h
 ·exact cmpB_lt_trans h1 h
 ·rw [← cmpB_zero _ _ h];exact h1
theorem pc1_ok {x:List UInt8} {p at' end' q:Nat} {prev:Option (List UInt8)} {c:PcR} (h:pc1 x p at' end' prev=some (c,q)):PcOk c∧behR prev c.a=false:=by
 obtain ⟨a,p1,e1,h1⟩:∃ a p1 e1,readBy x (p:Int) (x.length:Int)=(a,p1,e1):=⟨_,_,_,rfl⟩
 obtain ⟨b,p2,e2,h2⟩:∃ b p2 e2,readBy x (p1:Int) (x.length:Int)=(b,p2,e2):=⟨_,_,_,rfl⟩
 obtain ⟨sz,p3,e3,h3⟩:∃ s p3 e3,readU x (p2:Int)=(s,p3,e3):=⟨_,_,_,rfl⟩
 rw [pc1_by h1 h2 h3] at h
 split at h
 ·cases h
 split at h
 ·cases h
 split at h
 ·cases h
 split at h
 ·cases h
 split at h
 ·cases h
 rename_i hk
 split at h
 ·cases h
 rename_i hb
 injection h with h
 injection h with h _
 subst h
 refine ⟨⟨Decidable.byContradiction fun hh=>hk (.inl hh),Decidable.byContradiction fun hh=>hk (.inr (.inl hh)),?_⟩,by simpa using hb⟩
 exact Int.not_lt.1 fun hh=>hk (.inr (.inr hh))
theorem pcsF_asc {x:List UInt8} {end':Nat}:∀ {n p at':Nat} {prev:Option (List UInt8)} {l:List PcR} {r:Nat×Nat},pcsF x end' n p at' prev=some (l,r)→PsAsc l∧∀ k,prev=some k→∀ c,c ∈ l→cmpB k c.a < 0
 | 0,_,_,_,l,r,h=>by
  injection h with h
  injection h with h _
  subst h
  exact ⟨⟨fun _ h=>(by cases h),List.Pairwise.nil⟩,fun _ _ _ h=>(by cases h)⟩
 | n + 1,p,at',prev,l,r,h=>by
  cases h1:pc1 x p at' end' prev with
  | none=>rw [pcsF_none h1] at h;cases h
  | some v =>
   obtain ⟨c1,q⟩:=v
   have h2:=pcsF_some (n:=n) h1 []
   rw [pcsG_nil,h] at h2
   obtain ⟨h3,h3b⟩:=pc1_ok h1
   cases h4:pcsF x end' n q c1.hi (some c1.b) with
   | none=>rw [h4] at h2;cases h2
   | some v2 =>
    obtain ⟨l2,r2⟩:=v2
    rw [h4] at h2
    injection h2 with h2
    injection h2 with h2 _
    have h2:l=c1::l2:=h2
    subst h2
    obtain ⟨⟨i1,i2⟩,i3⟩:=pcsF_asc h4
    refine ⟨⟨fun c hc=>?_,List.Pairwise.cons (fun c hc=>i3 _ rfl c hc) i2⟩,fun k hk c hc=>?_⟩
    ·rcases List.mem_cons.1 hc with rfl | hc
     ·exact h3
     ·exact i1 c hc
    ·subst hk
     have hk1:cmpB k c1.a < 0:=by
      have:decide (0≤cmpB k c1.a)=false:=h3b
      have:=of_decide_eq_false this
      omega
     rcases List.mem_cons.1 hc with rfl | hc
     ·exact hk1
     ·exact cmpB_lt_trans (cmpB_lt_le hk1 h3.le) (i3 _ rfl c hc)
theorem pcsO_asc {x:List UInt8} {n end':Nat} {l:List PcR} (h:pcsO x n end'=some l):PsAsc l:=by
 unfold pcsO at h
 split at h
 ·cases h
 split at h
 ·cases h
 rename_i l' p at' hp
 split at h
 ·injection h with h
  subst h
  exact (pcsF_asc hp).1
 ·cases h
theorem cutS_le9 (l:List UInt8) (k m:Nat):(cutS l k m).length≤l.length:=by
 unfold cutS;rw [List.length_take,List.length_drop];omega
theorem openR7_asc {b:List UInt8} {r:RunR} (h:openR7 b=(some r,0)):PsAsc r.ps∧r.ps.length≤16777216:=by
 unfold openR7 at h
 split at h
 ·cases h
 rename_i hlen
 split at h
 ·cases h
 rename_i r' hr
 injection h with h _
 injection h with h
 subst h
 unfold openP at hr
 split at hr
 ·cases hr
 split at hr
 ·cases hr
 rename_i ns hns
 unfold openN at hr
 split at hr
 ·split at hr
  ·cases hr
  split at hr
  ·cases hr
  split at hr
  ·cases hr
  split at hr
  ·cases hr
  split at hr
  ·cases hr
  rename_i l hl
  injection hr with hr
  subst hr
  refine ⟨pcsO_asc hl,?_⟩
  have h1:=(pcsO_len hl).1
  have h2:=(pcsO_len hl).2
  exact Nat.le_trans (Nat.le_of_eq h1) (Nat.le_trans h2 (Nat.le_trans (cutS_le9 _ _ _) (by omega)))
 ·cases hr
theorem getLast_of {L:List Ent} (h:L ≠ []):∃ b,L[L.length - 1]?=some b∧b ∈ L∧lastK L=keyE b∧∃ a,L[0]?=some a∧a ∈ L∧firstK L=keyE a:=by
 have hl:L.length - 1 < L.length:=by have:=List.length_pos_iff.2 h;omega
 have h0:0 < L.length:=List.length_pos_iff.2 h
 exact ⟨_,List.getElem?_eq_getElem hl,List.getElem_mem _,lastK_at (List.getElem?_eq_getElem hl),_,List.getElem?_eq_getElem h0,List.getElem_mem _,firstK_at (List.getElem?_eq_getElem h0)⟩
def valS (L:List Ent):Nat:=(L.map fun e=>e.val.length).sum
theorem valS_app (a b:List Ent):valS (a ++ b)=valS a + valS b:=by unfold valS;rw [List.map_append,List.sum_append_nat]
theorem valS_le {n:Nat}:∀ {L:List Ent},(∀ e,e ∈ L→e.val.length≤n)→valS L≤L.length * n
 | [],_=>Nat.zero_le _
 | e::L,h=>by
  have h1:=valS_le (L:=L) fun x hx=>h x (.tail _ hx)
  have h2:=h e (.head _)
  show e.val.length + valS L≤(L.length + 1) * n
  rw [Nat.succ_mul];omega
theorem rowK_ln9 {al n:Nat} {k v:List UInt8} (ha:al≤k.length) (hk:k.length≤n) (hn:n≤1048) (hv:v.length≤4096):(rowK al k v).length≤v.length + n + 30:=by
 unfold rowK
 simp only [List.length_append,List.length_drop]
 have h1:=uintB_10 (v:=al) (by omega)
 have h2:=uintB_10 (v:=k.length - al) (by omega)
 have h3:=uintB_10 (v:=v.length) (by omega)
 omega
theorem szR_le {n:Nat} (hn:n≤1048):∀ (L:List Ent) (s:BSt),(∀ e,e ∈ L→checkE e=0∧(keyE e).length≤n)→sizeS (runE 16 s L)≤sizeS s + valS L + L.length * (n + 34)
 | [],s,_=>by show sizeS s≤_;omega
 | e::L,s,h=>by
  obtain ⟨hc,hk⟩:=h e (.head _)
  have h1:=szR_le hn L (stepB 16 s (keyE e) e.val) fun x hx=>h x (.tail _ hx)
  have h2:=rowK_ln9 (alike_le 16 s (keyE e)).2 hk hn (ok_of hc).val.1
  have h3:=size_step5 16 s (keyE e) e.val
  show sizeS (runE 16 (stepB 16 s (keyE e) e.val) L)≤sizeS s + (e.val.length + valS L) + (L.length + 1) * (n + 34)
  rw [Nat.succ_mul]
  split at h3 <;> omega
theorem lay_le {n:Nat} (hn:n≤1048) {c:List Ent} (hc:c ≠ []) (h:∀ e,e ∈ c→checkE e=0∧(keyE e).length≤n):(layB 16 c).length≤9 + valS c + c.length * (n + 34):=by
 rw [layB_len 16 hc]
 have:=szR_le hn c bst0 h
 have h0:sizeS bst0=9:=rfl
 rw [h0] at this
 exact this
theorem blocks_le {n:Nat} (hn:n≤1048):∀ {cs:List (List Ent)},(∀ c,c ∈ cs→ChOk c∧∀ e,e ∈ c→(keyE e).length≤n)→(blocksR cs).length≤9 * cs.length + valS cs.flatten + cs.flatten.length * (n + 34)∧(partsR cs).length≤cs.length * (2 * n + 30)
 | [],_=>⟨Nat.zero_le _,Nat.zero_le _⟩
 | c::cs,h=>by
  obtain ⟨h1,h2⟩:=blocks_le hn (cs:=cs) fun d hd=>h d (.tail _ hd)
  obtain ⟨hc,hk⟩:=h c (.head _)
  have h3:=lay_le hn hc.ne fun e he=>⟨hc.chk e he,hk e he⟩
  obtain ⟨a,_,ma,e1⟩:=hc.first
  obtain ⟨b,_,mb,e2⟩:=hc.last
  have ka:=hk a ma
  have kb:=hk b mb
  have h4:=build_len hc.bld hc.ne
  have h5:=uintB_10 (v:=(keyE a).length) (by omega)
  have h6:=uintB_10 (v:=(keyE b).length) (by omega)
  have h7:=uintB_10 (v:=(layB 16 c).length) (by omega)
  constructor
  ·rw [blocksR_cons,List.length_append,List.flatten_cons,valS_app,List.length_append,List.length_cons,Nat.add_mul]
   omega
  ·rw [partsR_cons,List.length_append,List.length_cons,Nat.succ_mul]
   have:(partR c).length=((uintB (keyE a).length).length + (keyE a).length) + ((uintB (keyE b).length).length + (keyE b).length) + (uintB (layB 16 c).length).length:=by
    unfold partR;rw [e1,e2];unfold keyB;simp only [List.length_append]
   omega
theorem filt_le {o:OptR} {L:List Ent} (hb:o.bits≤20):(filtR o L).length≤16 + 3 * L.length:=by
 unfold filtR
 split
 ·rw [buildB_length]
  have h1:=unl_le (rowsE L)
  have h2:=rowsE_le L
  have h3:(unl (rowsE L)).length * o.bits.toNat≤L.length * 20:=Nat.mul_le_mul (by omega) (by omega)
  unfold buildM
  omega
 ·exact Nat.zero_le _
theorem run_le {o:OptR} {L:List Ent} {n:Nat} (h:refuseR o L=0) (hn:n≤1048) (hk:∀ e,e ∈ L→(keyE e).length≤n) (hl:L.length≤1000000):(runBy o L).length≤valS L + L.length * (3 * n + 76) + 128:=by
 obtain ⟨h1,h2,h3⟩:=refuse_ok h
 obtain ⟨⟨b1,b2,b3,b4⟩,hse⟩:=optOk.iff h1
 obtain ⟨hch,_⟩:=cut_ch (t:=o.block.toNat) (by omega) h3
 have hct:=cut_count fun c hc=>(hch c hc).ne
 have hf:(cutR o.block.toNat [] L).flatten=L:=by rw [cutR_flat];rfl
 obtain ⟨cs,hcs⟩:∃ z,z=cutR o.block.toNat [] L:=⟨_,rfl⟩
 have hcm:∀ c,c ∈ cs→ChOk c∧∀ e,e ∈ c→(keyE e).length≤n:=fun c hc=>by
  rw [hcs] at hc
  exact ⟨hch c hc,fun e he=>hk e (by rw [← hf];exact List.mem_flatten.2 ⟨c,hc,he⟩)⟩
 rw [← hcs] at hct hf
 obtain ⟨h4,h5⟩:=blocks_le hn hcm
 rw [hf] at h4
 have h6:=filt_le (o:=o) (L:=L) b4
 have h7:(runBy o L).length=8 + (blocksR cs).length + ((filtR o L).length + 4) + ((uintB cs.length).length + (partsR cs).length + 4) + 68:=by
  unfold runBy runC
  rw [← hcs]
  unfold headR indexR
  simp only [List.length_append,sumdB_len,frameB_length,risBs_len]
  rfl
 have h8:=uintB_10 (v:=cs.length) (by omega)
 have h9:cs.length * (2 * n + 30)≤L.length * (2 * n + 30):=Nat.mul_le_mul_right _ hct
 have h10:L.length * (3 * n + 76)=L.length * (n + 34) + L.length * (2 * n + 30) + L.length * 12:=by
  rw [← Nat.mul_add,← Nat.mul_add];congr 1;omega
 omega
theorem run_small {o:OptR} {L:List Ent} (h:refuseR o L=0) (hl:L.length≤500):(runBy o L).length≤16777216:=by
 obtain ⟨h1,h2,h3⟩:=refuse_ok h
 have h4:=run_le h (Nat.le_refl 1048) (fun e he=>keyE_len (ok_of (h3.chk e he))) (by omega)
 have h5:=valS_le (n:=4096) fun e he=>(ok_of (h3.chk e he)).val.1
 have h6:L.length * 4096≤500 * 4096:=Nat.mul_le_mul_right _ hl
 have h7:L.length * (3 * 1048 + 76)≤500 * (3 * 1048 + 76):=Nat.mul_le_mul_right _ hl
 omega
theorem write_open {o:OptR} {L:List Ent} (h:refuseR o L=0) (hn:L.length≤1000000) (hl:(runBy o L).length≤16777216):writeR o L=(runBy o L,0)∧openR7 (runBy o L)=(some (runW o L),0):=by
 constructor
 ·unfold writeR
  rw [if_neg (by rw [h];decide),if_neg (by omega)]
 ·unfold openR7
  rw [if_neg (by omega),open_back h hn hl]
  rfl
def ordStep (index:Int) (m:List Ent) (e:Ent):List Ent:=if checkE e ≠ 0∨16 * index + 15 < e.seq then m else insE m e
def ordL (index:Int) (es:List Ent):List Ent:=es.foldl (ordStep index) []
theorem ordL_snoc (index:Int) (es:List Ent) (e:Ent):ordL index (es ++ [e])=ordStep index (ordL index es) e:=by unfold ordL;rw [List.foldl_append];rfl
structure OrdOk (index:Int) (m:List Ent):Prop where
  asc:AscE m
  chk:∀ e,e ∈ m→checkE e=0
  seq:∀ e,e ∈ m→e.seq≤16 * index + 15
theorem ins_mem {m:List Ent} {e x:Ent} (h:x ∈ insE m e):x ∈ m∨x=e:=by
 unfold insE at h
 split at h
 ·exact .inl h
 ·rcases List.mem_append.1 h with h1 | h1
  ·exact .inl (List.mem_of_mem_take h1)
  ·rcases List.mem_cons.1 h1 with rfl | h1
   ·exact .inr rfl
   ·exact .inl (List.mem_of_mem_drop h1)
theorem ordStep_ok {index:Int} {m:List Ent} (h:OrdOk index m) (e:Ent):OrdOk index (ordStep index m e):=by
 unfold ordStep
 split
 ·exact h
 ·rename_i hc
  refine ⟨ins_asc h.asc e,fun x hx=>?_,fun x hx=>?_⟩
  ·rcases ins_mem hx with h1 | rfl
   ·exact h.chk x h1
   ·exact Decidable.byContradiction fun hh=>hc (.inl hh)
  ·rcases ins_mem hx with h1 | rfl
   ·exact h.seq x h1
   ·exact Int.not_lt.1 fun hh=>hc (.inr hh)
theorem ord_ok (index:Int) (es:List Ent):OrdOk index (ordL index es):=by
 have h:∀ (es m:List Ent),OrdOk index m→OrdOk index (es.foldl (ordStep index) m):=by
  intro es
  induction es with
  | nil=>intro m h;exact h
  | cons e es ih=>intro m h;exact ih _ (ordStep_ok h e)
 exact h es [] ⟨List.Pairwise.nil,fun e h=>(by cases h),fun e h=>(by cases h)⟩
theorem look_of {index:Int}:∀ {L:List Ent} {p:Option Ent},OrdOk index L→(∀ q e,p=some q→L[0]?=some e→cmpE q e < 0)→lookE index p L=0
 | [],p,_,_=>by cases p <;> rfl
 | e::r,p,h,hp=>by
  have h1:checkE e=0:=h.chk e (.head _)
  have h2:=h.seq e (.head _)
  have h3:outP p e=false:=by
   cases p with
   | none=>rfl
   | some q=>exact decide_eq_false (by have:=hp q e rfl rfl;omega)
  obtain ⟨a1,a2⟩:=List.pairwise_cons.1 h.asc
  unfold lookE
  rw [if_neg (by simp [h1]),if_neg (by omega),h3,if_neg (by decide)]
  exact look_of ⟨a2,fun x hx=>h.chk x (.tail _ hx),fun x hx=>h.seq x (.tail _ hx)⟩ fun q x hq hx=>by
   injection hq with hq
   subst hq
   exact a1 x (List.mem_of_getElem? hx)
theorem refuse_of {o:OptR} {L:List Ent} (ho:optOk o=true) (hn:L ≠ []) (h:OrdOk o.index L):refuseR o L=0:=by
 unfold refuseR
 rw [if_neg (by simp [ho]),if_neg hn]
 exact look_of h fun q e hq=>by cases hq
def wholeI (n lo hi:Int):Int:=if n.tmod (hi - lo + 1) < 0 then lo + (n.tmod (hi - lo + 1) + hi - lo + 1) else lo + n.tmod (hi - lo + 1)
theorem wholeI_in (n lo hi:Int) (h:lo≤hi):lo≤wholeI n lo hi∧wholeI n lo hi≤hi:=by
 have h1:=Int.tmod_lt_of_pos n (show 0 < hi - lo + 1 by omega)
 have h2:=Int.lt_tmod_of_pos n (show 0 < hi - lo + 1 by omega)
 unfold wholeI
 split <;> omega
def optF (o:OptR):OptR:=⟨wholeI o.block 64 65536,wholeI o.bits 0 20,wholeI o.index 0 1099511627776,wholeI o.low 0 (wholeI o.clock 1 1099511627776 - 1),wholeI o.clock 1 1099511627776⟩
theorem optF_ok (o:OptR):optOk (optF o)=true:=by
 have h1:=wholeI_in o.block 64 65536 (by decide)
 have h2:=wholeI_in o.bits 0 20 (by decide)
 have h3:=wholeI_in o.index 0 1099511627776 (by decide)
 have h4:=wholeI_in o.clock 1 1099511627776 (by decide)
 have h5:=wholeI_in o.low 0 (wholeI o.clock 1 1099511627776 - 1) (by omega)
 unfold optOk sealI optF
 simp only [Bool.and_eq_true,decide_eq_true_eq]
 omega
def mayR (r:RunR) (row:List UInt8):Bool:=match r.ps.head?,r.ps.getLast? with
 | some p,some q=>if cmpB row (keyP p.a).row < 0∨0 < cmpB row (keyP q.b).row then false else if r.filt=[] then true else hasB r.filt row || !isF r.filt
 | _,_=>false
theorem filter_has (p m:Nat) (S:Nat→Bool) (k:List UInt8) (hp1:1≤p) (hp2:p≤14) (hm1:64≤m) (hm2:m≤20971520) (h8:m % 8=0) (h:∀ i ∈ placesN k p m,S i=true):hasB (filterB p m S) k=true:=by
 unfold hasB
 obtain ⟨e1,e2⟩:=filterB_shape p m S (by omega) (by omega)
 rw [filterB_isF p m S hp1 hp2 hm1 hm2 h8,e1,e2,Bool.true_and,List.all_eq_true]
 intro i hi
 have hlt:i < m:=by
  obtain ⟨t,_,rfl⟩:=List.mem_map.1 hi
  exact placeN_lt _ _ _ (by omega)
 rw [filterB_bit p m S i hlt h8]
 exact h i hi
theorem filt_has {bits:Int} {ks:List (List UInt8)} (ha:buildE bits ks=0) {k:List UInt8} (hk:k ∈ ks):hasB (buildB bits ks) k=true :=
 filter_has _ _ _ _ (buildP_le ha).1 (buildP_le ha).2 (buildM_ge _ _) (buildM_le ha) (buildM_mod _ _) fun _ hi=>List.any_eq_true.2 ⟨k,hk,List.contains_iff_mem.2 hi⟩
theorem pcsOf_last:∀ (cs:List (List Ent)) (a:Nat),cs ≠ []→∃ q c,(pcsOf a cs).getLast?=some q∧cs.getLast?=some c∧q.b=lastK c
 | [],_,h=>absurd rfl h
 | [c],a,_=>⟨_,c,rfl,rfl,rfl⟩
 | c::d::cs,a,_=>by
  obtain ⟨q,e,h1,h2,h3⟩:=pcsOf_last (d::cs) (a + (layB 16 c).length) (by simp)
  refine ⟨q,e,?_,by rw [List.getLast?_cons_cons];exact h2,h3⟩
  show (_::pcsOf _ (d::cs)).getLast?=some q
  unfold pcsOf at h1 ⊢
  rw [List.getLast?_cons_cons];exact h1
theorem flat_last:∀ (cs:List (List Ent)) (c:List Ent),cs.getLast?=some c→c ≠ []→cs.flatten.getLast?=c.getLast?
 | [],_,h,_=>by cases h
 | [a],c,h,_=>by
  injection h with h
  subst h
  simp
 | a::b::cs,c,h,hc=>by
  rw [List.getLast?_cons_cons] at h
  have ih:=flat_last (b::cs) c h hc
  rw [List.flatten_cons,List.getLast?_append,ih]
  cases hcl:c.getLast? with
  | none=>rw [List.getLast?_eq_none_iff] at hcl;exact absurd hcl hc
  | some x=>rfl
theorem runW_ends {o:OptR} {L:List Ent} (h:refuseR o L=0):∃ p q a b,(runW o L).ps.head?=some p∧(runW o L).ps.getLast?=some q∧L[0]?=some a∧L[L.length - 1]?=some b∧p.a=keyE a∧q.b=keyE b:=by
 obtain ⟨h1,h2,h3⟩:=refuse_ok h
 obtain ⟨⟨b1,b2,b3,b4⟩,hse⟩:=optOk.iff h1
 obtain ⟨hch,_⟩:=cut_ch (t:=o.block.toNat) (by omega) h3
 have hf:(cutR o.block.toNat [] L).flatten=L:=by rw [cutR_flat];rfl
 have hne:=cut_ne (t:=o.block.toNat) h2
 show ∃ p q a b,(pcsOf 8 (cutR o.block.toNat [] L)).head?=some p∧(pcsOf 8 (cutR o.block.toNat [] L)).getLast?=some q∧_
 obtain ⟨cs,hcs⟩:∃ z,z=cutR o.block.toNat [] L:=⟨_,rfl⟩
 rw [← hcs] at hch hf hne ⊢
 obtain ⟨q,c,q1,q2,q3⟩:=pcsOf_last cs 8 hne
 have hcc:=hch c (List.mem_of_getLast? q2)
 have hl:=flat_last cs c q2 hcc.ne
 rw [hf] at hl
 obtain ⟨b,hb,mb,kb⟩:=hcc.last
 match cs,hne,hf,hch,q1 with
 | d::ds,_,hf,hch,q1 =>
  obtain ⟨a,ha,ma,ka⟩:=(hch d (.head _)).first
  refine ⟨⟨firstK d,lastK d,8,8 + (layB 16 d).length⟩,q,a,b,rfl,q1,?_,?_,ka,by rw [q3,kb]⟩
  ·rw [← hf,List.flatten_cons,List.getElem?_append_left (List.length_pos_iff.2 (hch d (.head _)).ne)];exact ha
  ·rw [← List.getLast?_eq_getElem?,hl,List.getLast?_eq_getElem?];exact hb
theorem row_cmp9 {a b:Ent} (h:cmpE a b < 0):cmpB a.row b.row≤0:=by
 unfold cmpE seqC at h
 split at h
 ·rename_i h0;omega
 ·omega
theorem keyP_row {e:Ent} (h:checkE e=0):(keyP (keyE e)).row=e.row:=by unfold keyP;rw [keyP_key h]
theorem may_yes {o:OptR} {L:List Ent} (h:refuseR o L=0) (hn:L.length≤1000000) {e:Ent} (he:e ∈ L):mayR (runW o L) e.row=true:=by
 obtain ⟨p,q,a,b,h1,h2,h3,h4,h5,h6⟩:=runW_ends h
 obtain ⟨g1,g2,g3⟩:=refuse_ok h
 obtain ⟨⟨b1,b2,b3,b4⟩,hse⟩:=optOk.iff g1
 have ma:=List.mem_of_getElem? h3
 have mb:=List.mem_of_getElem? h4
 have hasc:=List.pairwise_iff_getElem.1 g3.ascE
 obtain ⟨i,hi,hie⟩:=List.getElem_of_mem he
 have la:cmpB a.row e.row≤0:=by
  obtain ⟨k0,e0⟩:=List.getElem?_eq_some_iff.1 h3
  by_cases hz:i=0
  ·subst hz;rw [← e0,hie,cmpB_self];exact Int.le_refl _
  ·have:=hasc 0 i k0 hi (by omega)
   rw [e0,hie] at this
   exact row_cmp9 this
 have lb:cmpB e.row b.row≤0:=by
  obtain ⟨k0,e0⟩:=List.getElem?_eq_some_iff.1 h4
  by_cases hz:i=L.length - 1
  ·subst hz;rw [← e0,hie,cmpB_self];exact Int.le_refl _
  ·have:=hasc i (L.length - 1) hi k0 (by omega)
   rw [e0,hie] at this
   exact row_cmp9 this
 have sa:=cmpB_swap a.row e.row
 unfold mayR
 rw [h1,h2]
 dsimp only
 rw [h5,h6,keyP_row (g3.chk a ma),keyP_row (g3.chk b mb),if_neg (by omega)]
 split
 ·rfl
 ·rename_i hf
  have hf:filtR o L ≠ []:=hf
  show (hasB (filtR o L) e.row || !isF (filtR o L))=true
  unfold filtR at hf ⊢
  by_cases hb:0 < o.bits
  ·rw [if_pos hb,filt_has ?_ (rowsE_in he)]
   ·rfl
   ·unfold buildE
    rw [if_neg (by omega),if_neg (by have:=rowsE_le L;omega)]
  ·rw [if_neg hb] at hf;exact absurd rfl hf
theorem may_no {o:OptR} {L:List Ent} (h:refuseR o L=0) {a b:Ent} (ha:L[0]?=some a) (hb:L[L.length - 1]?=some b) {row:List UInt8} (hr:cmpB row a.row < 0∨0 < cmpB row b.row):mayR (runW o L) row=false:=by
 obtain ⟨p,q,a',b',h1,h2,h3,h4,h5,h6⟩:=runW_ends h
 obtain ⟨g1,g2,g3⟩:=refuse_ok h
 rw [ha] at h3
 rw [hb] at h4
 injection h3 with h3
 injection h4 with h4
 subst h3 h4
 unfold mayR
 rw [h1,h2]
 dsimp only
 rw [h5,h6,keyP_row (g3.chk a (List.mem_of_getElem? ha)),keyP_row (g3.chk b (List.mem_of_getElem? hb)),if_pos hr]
theorem run_one {o p:OptR} {L M:List Ent} (h1:refuseR o L=0) (h2:refuseR p M=0) (n1:L.length≤1000000) (n2:M.length≤1000000) (l1:(runBy o L).length≤16777216) (l2:(runBy p M).length≤16777216) (h:runBy o L=runBy p M):L=M∧o.index=p.index∧o.low=p.low∧o.clock=p.clock:=by
 have e1:=(write_open h1 n1 l1).2
 have e2:=(write_open h2 n2 l2).2
 rw [h,e2] at e1
 injection e1 with e1 _
 injection e1 with e1
 have a1:=(written_tells h1 n1).1
 have a2:=(written_tells h2 n2).1
 rw [← e1,a2] at a1
 injection a1 with a1 _
 obtain ⟨_,s1⟩:=optOk.iff (refuse_ok h1).1
 obtain ⟨_,s2⟩:=optOk.iff (refuse_ok h2).1
 obtain ⟨x1,_,x2,_,x3,_⟩:=sealI.iff s1
 obtain ⟨y1,_,y2,_,y3,_⟩:=sealI.iff s2
 have i1:p.index.toNat=o.index.toNat:=congrArg RunR.index e1
 have i2:p.low.toNat=o.low.toNat:=congrArg RunR.low e1
 have i3:p.clock.toNat=o.clock.toNat:=congrArg RunR.clock e1
 exact ⟨a1.symm,by omega,by omega,by omega⟩
end Go.Proofs.YtfdbcfaeiglbeaaGreatDoor
