/-
 BlockL3, BlockM2, BlockM4, RunP4, RunP5, BlockR1, BlockR2, BlockL2, BlockS1, BlockA1, BlockS4, RunP6, RunP7, RunP8, RunP9, RunP10, RunP11, RunP12.
-/
import Derived.Test.YtfdbcfaeiglbeaaDoorRD20
import Derived.Test.YtfdbcfaeiglbeaaDoorRD21
import Derived.Lib.MinMax
import Derived.Maps.RangeWalk
import Derived.Sort.MapsRangeIn
namespace Go.Proofs.YtfdbcfaeiglbeaaDoor
open Go.RowKit
theorem reads_drop {x:World} {B sz g o k N:Nat} {xs:List Value} (h:Reads x B sz (some ⟨g,o,none⟩) k xs) (hN:N < k):Reads x B sz (some ⟨g,o + N * sz,none⟩) (k - N) (xs.drop (N * sz)):=by
 obtain ⟨b',o',e,hb,hc⟩:=h.2 (by omega)
 injection e with e;injection e with e1 e2 _
 subst e1 e2
 refine ⟨by rw [List.length_drop,h.1,Nat.sub_mul],fun _=>⟨g,o + N * sz,rfl,hb,fun j u hu=>?_⟩⟩
 rw [List.getElem?_drop] at hu
 rw [Nat.add_assoc]
 exact hc _ u hu
theorem reads_drop0 {x:World} {B sz g k N:Nat} {xs:List Value} (h:Reads x B sz (some ⟨g,0,none⟩) k xs) (hN:N < k):Reads x B sz (some ⟨g,N * sz,none⟩) (k - N) (xs.drop (N * sz)):=by
 have:=reads_drop h hN
 rwa [Nat.zero_add] at this
theorem cells_one {rs:List ER} {u:Value} (h:u ∈ rs.flatMap ER.cells):u.oneCell'=true:=by
 obtain ⟨r,_,hu⟩:=List.mem_flatMap.1 h
 simp only [ER.cells,List.mem_cons,List.not_mem_nil,or_false] at hu
 rcases hu with rfl | rfl | rfl | rfl | rfl | rfl | rfl <;> rfl
theorem flat7_drop (rs:List ER) (m:Nat):(rs.flatMap ER.cells).drop (m * 7)=(rs.drop m).flatMap ER.cells:=by
 induction rs generalizing m with
 | nil=>simp
 | cons r rs ih =>
  cases m with
  | zero=>simp
  | succ m =>
   rw [List.drop_succ_cons,List.flatMap_cons,List.drop_append,ER.len,List.drop_of_length_le (by rw [ER.len];omega),show (m + 1) * 7 - 7=m * 7 from by omega,ih,List.nil_append]
theorem OW.rowRange {w x:World} {os:List Ob} {i g c k j:Nat} {T:TypeId} {rs:List ER} {r:ER} (h:OW w os x) (hi:os[i]?=some (rowO T 7 (.slice (some ⟨g,0,none⟩) k c) k (rs.flatMap ER.cells))) (hr:rs[j]?=some r):x.rangeAt g (j * 7) r.cells:=fun q v hq=>by
 have hq7:q < 7:=(List.getElem?_eq_some_iff.1 hq).1
 have hrow:=h.row hi
 have hjl:j < rs.length:=(List.getElem?_eq_some_iff.1 hr).1
 have hlen:(rs.flatMap ER.cells).length=k * 7:=hrow.1
 rw [flat7_len] at hlen
 rw [World.ownsRow.cellAt hrow (j * 7 + q) (by omega),flat7_at hr q hq7];exact hq
structure Srt (w:World) (rs:List ER) (L:List Ent):Prop where
  ents:rs.map ER.e=L
  en:∀ r,r ∈ rs→∀ z,Below w.heap.size w z→r.En z
theorem Srt.len {w:World} {rs:List ER} {L:List Ent} (h:Srt w rs L):rs.length=L.length:=by rw [← h.ents,List.length_map]
theorem Srt.at_ {w:World} {rs:List ER} {L:List Ent} (h:Srt w rs L) {j:Nat} {r:ER} (hr:rs[j]?=some r):L[j]?=some r.e:=by rw [← h.ents,List.getElem?_map,hr];rfl
theorem Srt.ens {w x:World} {os:List Ob} {rs:List ER} {L:List Ent} {i c k:Nat} {A:Option Addr} {T:TypeId} (h:Srt w rs L) (hx:OW w os x) (hi:os[i]?=some (rowO T 7 (.slice A k c) k (rs.flatMap ER.cells))):Ens x A k L:=by
 rw [← h.ents]
 exact hx.ens hi fun r hr=>h.en r hr x hx.up
theorem build_snoc {R:Nat} {L:List Ent} {e:Ent} (h0:(buildK R [] L).1=0):(buildK R [] (L ++ [e])).1=addC R L e:=by
 rw [buildK_app,if_pos h0,List.nil_append]
 unfold buildK
 split
 ·rename_i h;rw [h];rfl
 ·rfl
theorem uintB_10 {v:Nat} (h:v≤1000000):(uintB v).length≤10:=uintB_ten (by omega)
theorem rowK_le {al:Nat} {k v:List UInt8} (ha:al≤k.length) (hk:k.length≤1048) (hv:v.length≤4096):(rowK al k v).length≤5174:=by
 unfold rowK
 simp only [List.length_append,List.length_drop]
 have h1:=uintB_10 (v:=al) (by omega)
 have h2:=uintB_10 (v:=k.length - al) (by omega)
 have h3:=uintB_10 (v:=v.length) (by omega)
 omega
theorem lastOk_of {L:List Ent} {e:Ent} (h:AscE (L ++ [e])):lastOk L e=true:=by
 unfold lastOk
 cases hl:L.getLast? with
 | none=>rfl
 | some l =>
  have hm:l ∈ L:=List.mem_of_getLast? hl
  exact decide_eq_true ((List.pairwise_append.1 h).2.2 l hm e (by simp))
theorem cut_bld {t:Nat} {L:List Ent} (ht:t≤65536) (hc:∀ e,e ∈ L→checkE e=0):∀ c,c ∈ cutR t [] L→c ≠ []∧(AscE c→(buildK 16 [] c).1=0):=by
 refine cutR_all t (E:=fun e=>checkE e=0) (P:=fun c=>AscE c→(buildK 16 [] c).1=0) ?_ L [] hc (fun h=>absurd rfl h) (fun _=>rfl)
 intro now e he hs hP ha
 have h0:=hP (List.pairwise_append.1 ha).1
 rw [build_snoc h0]
 have ho:=ok_of he
 unfold addC
 rw [if_neg (by simp [he]),if_neg (by rw [lastOk_of ha];decide),if_neg]
 rw [size_step]
 have h1:=(alike_le 16 (runB 16 now) (keyE e)).2
 have h2:=rowK_le h1 (keyE_len ho) ho.val.1
 have h3:sizeS (runB 16 now)≤65536:=by
  rcases hs with rfl | hs
  ·decide
  ·omega
 split <;> omega
theorem asc_parts:∀ {cs:List (List Ent)},AscE cs.flatten→(∀ c,c ∈ cs→AscE c)∧cs.Pairwise (fun a b=>∀ x,x ∈ a→∀ y,y ∈ b→cmpE x y < 0)
 | [],_=>⟨fun c h=>(by cases h),List.Pairwise.nil⟩
 | c::cs,h=>by
  rw [List.flatten_cons] at h
  obtain ⟨h1,h2,h3⟩:=List.pairwise_append.1 h
  obtain ⟨h4,h5⟩:=asc_parts h2
  refine ⟨fun d hd=>?_,List.Pairwise.cons (fun d hd x hx y hy=>h3 x hx y (List.mem_flatten.2 ⟨d,hd,hy⟩)) h5⟩
  rcases List.mem_cons.1 hd with rfl | hd
  ·exact h1
  ·exact h4 d hd
theorem lay_pos {c:List Ent} (h:c ≠ []):9≤(layB 16 c).length:=by rw [layB_len 16 h];unfold sizeS;omega
theorem build_len {c:List Ent} (h:buildE5 16 c=(layB 16 c,0)) (hn:c ≠ []):(layB 16 c).length≤131072:=by
 obtain ⟨_,_,h0,_,_,_⟩:=build_parts (R:=16) h
 have:=buildK_size 16 c [] (by decide) h0
 rw [layB_len 16 hn]
 simpa using this
theorem chs_of:∀ {cs:List (List Ent)} {p:Option (List UInt8)},(∀ c,c ∈ cs→ChOk c)→cs.Pairwise (fun a b=>∀ x,x ∈ a→∀ y,y ∈ b→cmpE x y < 0)→(∀ c,cs.head?=some c→behR p (firstK c)=false)→ChsOk p cs
 | [],_,_,_,_=>trivial
 | c::cs,p,h,hp,h0=>by
  have hc:=h c (.head _)
  obtain ⟨hp1,hp2⟩:=List.pairwise_cons.1 hp
  refine ⟨hc,h0 c rfl,by have:=lay_pos hc.ne;omega,by have:=build_len hc.bld hc.ne;omega,chs_of (fun d hd=>h d (.tail _ hd)) hp2 fun d hd=>?_⟩
  have hdm:d ∈ cs:=List.mem_of_head? hd
  have hdc:=h d (.tail _ hdm)
  obtain ⟨a,_,ma,e1⟩:=hc.last
  obtain ⟨b,_,mb,e2⟩:=hdc.first
  have h1:=hp1 d hdm a ma b mb
  rw [e1,e2]
  show decide (0≤cmpB (keyE a) (keyE b))=false
  rw [key_sorts (ok_of (hc.chk a ma)) (ok_of (hdc.chk b mb))]
  exact decide_eq_false (by omega)
theorem cut_ch {index:Int} {t:Nat} {L:List Ent} (ht:t≤65536) (h:LookOk index L):(∀ c,c ∈ cutR t [] L→ChOk c)∧ChsOk none (cutR t [] L):=by
 have hf:(cutR t [] L).flatten=L:=by rw [cutR_flat];rfl
 have ha:AscE (cutR t [] L).flatten:=by rw [hf];exact h.ascE
 obtain ⟨h1,h2⟩:=asc_parts ha
 have hc:∀ c,c ∈ cutR t [] L→ChOk c:=fun c hc=>by
  obtain ⟨hn,hb⟩:=cut_bld ht h.chk c hc
  have hcm:∀ e,e ∈ c→e ∈ L:=fun e he=>by rw [← hf];exact List.mem_flatten.2 ⟨c,hc,he⟩
  refine ⟨hn,fun e he=>h.chk e (hcm e he),h1 c hc,?_⟩
  have h0:=hb (h1 c hc)
  unfold buildE5
  rw [if_neg (by decide),if_pos (by exact h0)]
  unfold finE
  rw [if_neg hn]
  rfl
 exact ⟨hc,chs_of hc h2 fun c _=>rfl⟩
theorem cut_ne {t:Nat} {L:List Ent} (h:L ≠ []):cutR t [] L ≠ []:=fun h0=>by
 have hf:(cutR t [] L).flatten=L:=by rw [cutR_flat];rfl
 rw [h0] at hf
 exact h hf.symm
theorem cut_count {t:Nat} {L:List Ent} (h:∀ c,c ∈ cutR t [] L→c ≠ []):(cutR t [] L).length≤L.length:=by
 have hf:(cutR t [] L).flatten=L:=by rw [cutR_flat];rfl
 have hk:∀ cs:List (List Ent),(∀ c,c ∈ cs→c ≠ [])→cs.length≤cs.flatten.length:=by
  intro cs
  induction cs with
  | nil=>intro _;exact Nat.le_refl _
  | cons c cs ih =>
   intro h
   have h1:=ih fun d hd=>h d (.tail _ hd)
   have h2:0 < c.length:=List.length_pos_iff.2 (h c (.head _))
   rw [List.flatten_cons,List.length_append,List.length_cons]
   omega
 have:=hk _ h
 rwa [hf] at this
theorem sumdB_len (b:List UInt8):(sumdB b).length=b.length + 4:=by unfold sumdB;rw [List.length_append,lowB_len]
theorem cutS_mid (p m r:List UInt8) {k n:Nat} (hk:k=p.length) (hn:n=m.length):cutS (p ++ (m ++ r)) k n=m:=by
 subst hk hn
 unfold cutS
 rw [List.drop_left' rfl,List.take_left' rfl]
theorem refuse_ok {o:OptR} {L:List Ent} (h:refuseR o L=0):optOk o=true∧L ≠ []∧LookOk o.index L:=by
 unfold refuseR at h
 split at h
 ·cases h
 ·rename_i h1
  split at h
  ·cases h
  ·rename_i h2
   exact ⟨by simpa using h1,h2,look_ok h⟩
theorem open_back {o:OptR} {L:List Ent} (h:refuseR o L=0) (hn:L.length≤1000000) (hl:(runBy o L).length≤16777216) :
  openP (runBy o L)=some ⟨runBy o L,L.length,o.index.toNat,o.low.toNat,o.clock.toNat,filtR o L,pcsOf 8 (cutR o.block.toNat [] L)⟩:=by
 obtain ⟨h1,h2,h3⟩:=refuse_ok h
 obtain ⟨⟨b1,b2,b3,b4⟩,hse⟩:=optOk.iff h1
 obtain ⟨s1,s2,s3,s4,s5,s6⟩:=sealI.iff hse
 obtain ⟨cs,hcs⟩:∃ z,z=cutR o.block.toNat [] L:=⟨_,rfl⟩
 obtain ⟨hch,hchs⟩:=cut_ch (t:=o.block.toNat) (by omega) h3
 have hne:=cut_ne (t:=o.block.toNat) h2
 have hct:=cut_count fun c hc=>(hch c hc).ne
 unfold runBy at hl ⊢
 rw [← hcs] at hch hchs hne hct hl ⊢
 have e1:runC o L cs=headR cs ++ (sumdB (filtR o L) ++ (sumdB (indexR cs) ++ frameB (risBs (numsR o L cs)))):=by unfold runC;simp only [List.append_assoc]
 have e2:runC o L cs=(headR cs ++ sumdB (filtR o L)) ++ (sumdB (indexR cs) ++ frameB (risBs (numsR o L cs))):=by unfold runC;simp only [List.append_assoc]
 have e3:runC o L cs=headR cs ++ (filtR o L ++ (lowB (sumL (filtR o L)) ++ (sumdB (indexR cs) ++ frameB (risBs (numsR o L cs))))):=by unfold runC sumdB;simp only [List.append_assoc]
 have e4:runC o L cs=(headR cs ++ sumdB (filtR o L)) ++ (indexR cs ++ (lowB (sumL (indexR cs)) ++ frameB (risBs (numsR o L cs)))):=by unfold runC sumdB;simp only [List.append_assoc]
 have hfl:(frameB (risBs (numsR o L cs))).length=68:=by rw [frameB_length,risBs_len];rfl
 have hL1:(headR cs).length=8 + (blocksR cs).length:=by unfold headR;rw [List.length_append];rfl
 have hL2:(headR cs ++ sumdB (filtR o L)).length=(headR cs).length + (filtR o L).length + 4:=by rw [List.length_append,sumdB_len];omega
 have hL3:(runC o L cs).length=(headR cs).length + (filtR o L).length + 4 + (indexR cs).length + 72:=by
  rw [e2,List.length_append,hL2,List.length_append,sumdB_len,hfl];omega
 have hns:∀ v,v ∈ numsR o L cs→v < 9223372036854775808:=by
  intro v hv
  unfold numsR at hv
  simp only [List.mem_cons,List.not_mem_nil,or_false] at hv
  rcases hv with rfl | rfl | rfl | rfl | rfl | rfl | rfl <;> omega
 have hN:=numsO_back (headR cs ++ sumdB (filtR o L) ++ sumdB (indexR cs)) (ns:=numsR o L cs) rfl hns
 have e5:runC o L cs=headR cs ++ sumdB (filtR o L) ++ sumdB (indexR cs) ++ frameB (risBs (numsR o L cs)):=rfl
 rw [← e5] at hN
 have hmag:(runC o L cs).take 8=magR:=by rw [e1];unfold headR;rw [List.append_assoc];exact List.take_left' (rfl:magR.length=8)
 unfold openP
 rw [if_neg (fun hh=>hh hmag),hN]
 show openN (runC o L cs) [L.length,o.index.toNat,o.low.toNat,o.clock.toNat,cs.length,(headR cs).length,(headR cs ++ sumdB (filtR o L)).length]=_
 unfold openN
 have c1:cutS (runC o L cs) (headR cs).length ((headR cs ++ sumdB (filtR o L)).length - (headR cs).length)=sumdB (filtR o L):=by
  rw [e1];exact cutS_mid _ _ _ rfl (by rw [List.length_append];omega)
 have c2:cutS (runC o L cs) (headR cs ++ sumdB (filtR o L)).length ((runC o L cs).length - 68 - (headR cs ++ sumdB (filtR o L)).length)=sumdB (indexR cs):=by
  have:(runC o L cs).length - 68 - (headR cs ++ sumdB (filtR o L)).length=(sumdB (indexR cs)).length:=by rw [sumdB_len];omega
  rw [this,e2];exact cutS_mid _ _ _ rfl rfl
 have c3:cutS (runC o L cs) (headR cs).length ((headR cs ++ sumdB (filtR o L)).length - (headR cs).length - 4)=filtR o L:=by
  have:(headR cs ++ sumdB (filtR o L)).length - (headR cs).length - 4=(filtR o L).length:=by omega
  rw [this,e3];exact cutS_mid _ _ _ rfl rfl
 have c4:cutS (runC o L cs) (headR cs ++ sumdB (filtR o L)).length ((runC o L cs).length - 72 - (headR cs ++ sumdB (filtR o L)).length)=indexR cs:=by
  have:(runC o L cs).length - 72 - (headR cs ++ sumdB (filtR o L)).length=(indexR cs).length:=by omega
  rw [this,e4];exact cutS_mid _ _ _ rfl rfl
 have hcl:0 < cs.length:=List.length_pos_iff.2 hne
 have hfi:filtR o L ≠ []→isF (filtR o L)=true:=by
  intro hf
  unfold filtR at hf ⊢
  by_cases hb:0 < o.bits
  ·rw [if_pos hb]
   refine buildB_isF ?_
   unfold buildE
   rw [if_neg (by omega),if_neg (by have:=rowsE_le L;omega)]
  ·rw [if_neg hb] at hf;exact absurd rfl hf
 have hse2:sealI (o.index.toNat:Int) (o.low.toNat:Int) (o.clock.toNat:Int)=true:=by
  rw [Int.toNat_of_nonneg s1,Int.toNat_of_nonneg s5,Int.toNat_of_nonneg (by omega)];exact hse
 dsimp only
 rw [if_neg (by rintro (hh | hh | hh);rw [hse2] at hh;cases hh;omega;omega),if_neg (by omega),c1,c2,if_neg (by rintro (hh | hh);rw [unsB_back] at hh;cases hh;rw [unsB_back] at hh;cases hh),c3,if_neg (by rintro ⟨hh1,hh2⟩;rw [hfi hh1] at hh2;cases hh2),c4,pcsO_back cs hchs (by omega) hL1.symm]
def runW (o:OptR) (L:List Ent):RunR:=⟨runBy o L,L.length,o.index.toNat,o.low.toNat,o.clock.toNat,filtR o L,pcsOf 8 (cutR o.block.toNat [] L)⟩
structure BkR (x:World) (R g:Nat) (L:List Ent):Prop where
  lt:g < x.heap.size
  c0:x.cell? ⟨g,0,none⟩=some (.int .i64 (R:Int))
  c1:∃ A c,x.cell? ⟨g,1,none⟩=some (.slice A L.length c)∧Ens x A L.length L
  c2:∃ A c,x.cell? ⟨g,2,none⟩=some (.slice A L.length c)∧RBs x x.heap.size A L.length (L.map keyE)
theorem BkR.later {x y:World} {R g:Nat} {L:List Ent} (h:BkR x R g L) (hb:Below x.heap.size x y):BkR y R g L:=by
 obtain ⟨h0,h1,⟨A,c,h2,h3⟩,⟨B,d,h4,h5⟩⟩:=h
 exact ⟨Nat.lt_of_lt_of_le h0 hb.size,(hb.cell (p:=⟨g,0,none⟩) h0).trans h1,⟨A,c,(hb.cell (p:=⟨g,1,none⟩) h0).trans h2,h3.later hb⟩,⟨B,d,(hb.cell (p:=⟨g,2,none⟩) h0).trans h4,h5.later hb⟩⟩
theorem Bk5.reads {w x:World} {R g:Nat} {L:List Ent} {os rest:List Ob} (hb:Bk5 R L g os) (h:OW w (os ++ rest) x):BkR x R g L:=by
 obtain ⟨lv,kv,zs,rfl,rfl,hz⟩:=hb
 obtain ⟨A,c,rfl,he⟩:=blk_ens h
 obtain ⟨B,d,rfl,_⟩:=own_slice (h.row (i:=2) rfl)
 have hl:(entsZ zs).length=zs.length:=by unfold entsZ;rw [List.length_map]
 refine ⟨(h.box (i:=0) rfl).2.1,h.cell (i:=0) (j:=0) rfl rfl,⟨A,c,by rw [hl];exact h.cell (i:=0) (j:=1) rfl rfl,by rw [hl];exact he⟩,⟨B,d,by rw [hl];exact h.cell (i:=0) (j:=2) rfl rfl,?_⟩⟩
 rw [hl]
 refine ⟨zs.map (valR ·.2),Reads.own (h.row (i:=2) rfl),by unfold entsZ;simp,fun i k hk=>?_⟩
 unfold entsZ at hk
 rw [List.map_map,List.getElem?_map] at hk
 obtain ⟨z,hzi,hke⟩:=Option.map_eq_some_iff.1 hk
 have hm:=List.mem_of_getElem? hzi
 have hkk:z.2.2.2=k:=by rw [(hz z hm).1];exact hke
 have hsl:=h.slm (T:=5) (A:=z.2.1) (c:=z.2.2.1) (l:=z.2.2.2) (List.mem_append_left _ (rowZ_mem hm (by simp [rowsZ]))) rfl
 rw [hkk] at hsl
 exact ⟨z.2.1,z.2.2.1,by rw [List.getElem?_map,hzi];simp only [Option.map_some,valR];rw [hkk],hsl.cap,hsl.lim,hsl.nil,hsl.rb⟩
def OwnP (mk:Value→Value) (e:Ent) (w:World) (r:Ending) (x:World):Prop :=
 ∃ A B D,r = .returned (mk (entV A e.row.length e.row.length B e.qual.length e.qual.length D e.val.length e.val.length e))∧CAt A e.row∧CAt B e.qual∧CAt D e.val∧OW w [clipO A e.row,clipO B e.qual,clipO D e.val] x
theorem OwnP.en {e:Ent} {w x:World} {A B D:Option Addr} (ha:CAt A e.row) (hb:CAt B e.qual) (hd:CAt D e.val) (hn:e.row.length≤9223372036854775807∧e.qual.length≤9223372036854775807∧e.val.length≤9223372036854775807) (h:OW w [clipO A e.row,clipO B e.qual,clipO D e.val] x):En x A e.row.length e.row.length B e.qual.length e.qual.length D e.val.length e.val.length e :=
 ⟨h.clipSl ha (i:=0) rfl rfl hn.1,h.clipSl hb (i:=1) rfl rfl hn.2.1,h.clipSl hd (i:=2) rfl rfl hn.2.2⟩
theorem OwnP.own {mk:Value→Value} {e:Ent} {w x:World} {r:Ending} (h:OwnP mk e w r x):∃ A B D,r = .returned (mk (entV A e.row.length e.row.length B e.qual.length e.qual.length D e.val.length e.val.length e))∧CAt A e.row∧CAt B e.qual∧CAt D e.val∧OW w [clipO A e.row,clipO B e.qual,clipO D e.val] x:=h
def HandE (e:Ent) (vs:Array Value) (W W1:World):Prop:=∃ A B D,vs=#[entV A e.row.length e.row.length B e.qual.length e.qual.length D e.val.length e.val.length e]∧CAt A e.row∧CAt B e.qual∧CAt D e.val∧OW W [clipO A e.row,clipO B e.qual,clipO D e.val] W1
theorem HandE.ok {e:Ent} {vs:Array Value} {W W1:World} (h:HandE e vs W W1):vs.size=1∧Below W.heap.size W W1:=by
 obtain ⟨A,B,D,rfl,_,_,_,h⟩:=h
 exact ⟨rfl,h.up⟩
theorem write_no {o:OptR} {L:List Ent} {k:Int} (h:refuseR o L=k) (hk:k ≠ 0):writeR o L=([],k):=by
 unfold writeR;rw [h,if_pos hk]
theorem opt_no {o:OptR} {L:List Ent} (h:optOk o=false):writeR o L=([],74):=write_no (by unfold refuseR;rw [if_pos h]) (by decide)
theorem nil_no {o:OptR} {L:List Ent} (h:optOk o=true) (hL:L=[]):writeR o L=([],71):=write_no (by unfold refuseR;rw [if_neg (by rw [h];decide),if_pos hL]) (by decide)
theorem look_no {o:OptR} {L:List Ent} {k:Int} (h:optOk o=true) (hL:L ≠ []) (hk:lookE o.index none L=k) (h0:k ≠ 0):writeR o L=([],k):=write_no (by unfold refuseR;rw [if_neg (by rw [h];decide),if_neg hL,hk]) h0
theorem refuse_none {o:OptR} {L:List Ent} (h:optOk o=true) (hL:L ≠ []) (hk:lookE o.index none L=0):refuseR o L=0:=by unfold refuseR;rw [if_neg (by rw [h];decide),if_neg hL,hk]
theorem wlong_no {o:OptR} {L:List Ent} (h:refuseR o L=0) (hl:16777216 < (runBy o L).length):writeR o L=([],2):=by unfold writeR;rw [if_neg (fun hh=>hh h),if_pos hl]
theorem write_ok {o:OptR} {L:List Ent} (h:refuseR o L=0) (hl:¬ 16777216 < (runBy o L).length):writeR o L=(runBy o L,0):=by unfold writeR;rw [if_neg (fun hh=>hh h),if_neg hl]
theorem take_more {L:List Ent} {i j:Nat} {e:Ent} (hij:i≤j) (h:L[j]?=some e):(L.drop i).take (j + 1 - i)=(L.drop i).take (j - i) ++ [e]:=by
 have h1:(L.drop i)[j - i]?=some e:=by rw [List.getElem?_drop,show i + (j - i)=j from by omega];exact h
 rw [show j + 1 - i=(j - i) + 1 from by omega]
 exact take_snoc h1
theorem drop_one {L:List Ent} {j:Nat} {e:Ent} (h:L[j]?=some e):L.drop j=e::L.drop (j + 1):=by
 obtain ⟨hi,he⟩:=List.getElem?_eq_some_iff.1 h
 rw [← he];exact List.drop_eq_getElem_cons hi
theorem asc_mid {L:List Ent} (h:AscE L) (i k:Nat):AscE ((L.drop i).take k):=h.sublist ((List.take_sublist _ _).trans (List.drop_sublist _ _))
theorem add_fits {t:Nat} {now:List Ent} {e:Ent} (ht:t≤65536) (hs:¬ fullR t now) (he:checkE e=0) (ha:AscE (now ++ [e])):addC 16 now e=0:=by
 have ho:=ok_of he
 unfold addC
 rw [if_neg (by simp [he]),if_neg (by rw [lastOk_of ha];decide),if_neg]
 rw [size_step]
 have h1:=(alike_le 16 (runB 16 now) (keyE e)).2
 have h2:=rowK_le h1 (keyE_len ho) ho.val.1
 have h3:sizeS (runB 16 now)≤65536:=by
  by_cases hn:now=[]
  ·rw [hn];decide
  ·have:=Nat.lt_of_not_le fun h=>hs ⟨hn,h⟩;omega
 split <;> omega
theorem add_list {R:Nat} {now:List Ent} {e:Ent} (h:addC R now e=0):addL R now e=now ++ [e]:=by unfold addL;rw [if_pos h]
theorem keyB_le {c:List Ent} (h:ChOk c):(keyB (firstK c)).length≤1058∧(keyB (lastK c)).length≤1058:=by
 obtain ⟨a,_,ma,e1⟩:=h.first
 obtain ⟨b,_,mb,e2⟩:=h.last
 have ka:=keyE_len (ok_of (h.chk a ma))
 have kb:=keyE_len (ok_of (h.chk b mb))
 rw [keyB_len,keyB_len,e1,e2]
 have h1:=uintB_10 (v:=(keyE a).length) (by omega)
 have h2:=uintB_10 (v:=(keyE b).length) (by omega)
 omega
theorem partsR_le:∀ {cs:List (List Ent)},(∀ c,c ∈ cs→ChOk c)→(partsR cs).length≤2200 * cs.length
 | [],_=>Nat.le_refl _
 | c::cs,h=>by
  have hc:=h c (.head _)
  have h1:=partsR_le fun d hd=>h d (.tail _ hd)
  have h2:=keyB_le hc
  have h3:=build_len hc.bld hc.ne
  have h4:=uintB_10 (v:=(layB 16 c).length) (by omega)
  rw [partsR_cons,List.length_append,List.length_cons]
  unfold partR
  rw [List.length_append,List.length_append]
  omega
theorem headR_app (a b:List (List Ent)):headR (a ++ b)=headR a ++ blocksR b:=by unfold headR blocksR;rw [List.flatMap_append,List.append_assoc]
theorem headR_snoc (a:List (List Ent)) (c:List Ent):headR (a ++ [c])=headR a ++ layB 16 c:=by rw [headR_app];unfold blocksR;simp
theorem runC_head (o:OptR) (L:List Ent) (cs:List (List Ent)):(headR cs).length≤(runC o L cs).length:=by
 unfold runC;simp only [List.length_append];omega
theorem nums_val (o:OptR) (L:List Ent) (cs:List (List Ent)):numsR o L cs=[L.length,o.index.toNat,o.low.toNat,o.clock.toNat,cs.length,(headR cs).length,(headR cs ++ sumdB (filtR o L)).length]:=rfl
theorem risBs_take {ns:List Nat} {k v:Nat} (h:ns[k]?=some v):risBs (ns.take (k + 1))=risBs (ns.take k) ++ risB v:=by
 rw [take_snoc h,risBs_app];unfold risBs;simp
theorem filt_len {o:OptR} {L:List Ent} (h:optOk o=true) (hn:L.length≤1000000):(filtR o L).length≤3000000:=by
 obtain ⟨⟨b1,b2,b3,b4⟩,_⟩:=optOk.iff h
 unfold filtR
 split
 ·have h0:buildE o.bits (rowsE L)=0:=by unfold buildE;rw [if_neg (by omega),if_neg (by have:=rowsE_le L;omega)]
  rw [buildB_length]
  have:=buildM_le h0
  omega
 ·exact Nat.zero_le _
def pcsG (done:List PcR) (r:Option (List PcR×Nat×Nat)):Option (List PcR×Nat×Nat):=match r with
 | none=>none
 | some (l,q)=>some (done ++ l,q)
def lastB (done:List PcR):Option (List UInt8):=done.getLast?.map PcR.b
theorem pcsG_nil (r:Option (List PcR×Nat×Nat)):pcsG [] r=r:=by
 cases r with
 | none=>rfl
 | some v=>rfl
theorem pcsF_none {x:List UInt8} {end' n p at':Nat} {prev:Option (List UInt8)} (h:pc1 x p at' end' prev=none):pcsF x end' (n + 1) p at' prev=none:=by
 show (match pc1 x p at' end' prev with
  | none=>none
  | some (c,q)=>match pcsF x end' n q c.hi (some c.b) with
   | none=>none
   | some (l,r)=>some (c::l,r))=none
 rw [h]
theorem pcsF_some {x:List UInt8} {end' n p at' q:Nat} {prev:Option (List UInt8)} {c:PcR} (h:pc1 x p at' end' prev=some (c,q)) (done:List PcR):pcsG done (pcsF x end' (n + 1) p at' prev)=pcsG (done ++ [c]) (pcsF x end' n q c.hi (some c.b)):=by
 have h1:pcsF x end' (n + 1) p at' prev=(match pcsF x end' n q c.hi (some c.b) with
   | none=>none
   | some (l,r)=>some (c::l,r)):=by
  show (match pc1 x p at' end' prev with
   | none=>none
   | some (c,q)=>match pcsF x end' n q c.hi (some c.b) with
    | none=>none
    | some (l,r)=>some (c::l,r))=_
  rw [h]
 rw [h1]
 cases pcsF x end' n q c.hi (some c.b) with
 | none=>rfl
 | some v=>obtain ⟨l,r⟩:=v;show some (done ++ c::l,r)=some ((done ++ [c]) ++ l,r);rw [List.append_assoc];rfl
theorem readU_le (l:List UInt8) (a:Int):(readU l a).2.1≤l.length:=by
 by_cases h:(readU l a).2.2=0
 ·exact (readU_end l a h).1
 ·unfold readU at h ⊢
  split
  ·exact Nat.zero_le _
  ·rename_i h1
   split
   ·rename_i h2
    rw [if_neg h1,if_pos h2] at h
    exact absurd rfl h
   ·exact Nat.zero_le _
theorem pc1_by {x a b:List UInt8} {p at' end' p1 e1 p2 e2 sz p3 e3:Nat} {prev:Option (List UInt8)} (h1:readBy x (p:Int) (x.length:Int)=(a,p1,e1)) (h2:readBy x (p1:Int) (x.length:Int)=(b,p2,e2)) (h3:readU x (p2:Int)=(sz,p3,e3)) :
  pc1 x p at' end' prev=if e1 ≠ 0 then none else if e2 ≠ 0 then none else if e3 ≠ 0 then none else if sz=0∨end' - at' < sz then none else if (ParseKeyE a).2 ≠ 0∨(ParseKeyE b).2 ≠ 0∨0 < cmpB a b then none else if behR prev a=true then none else some (⟨a,b,at',at' + sz⟩,p3):=by
 unfold pc1
 rw [h1]
 dsimp only
 rw [h2]
 dsimp only
 rw [h3]
def idxOk (x:List UInt8) (end':Nat) (r:Option (List PcR×Nat×Nat)):Option (List PcR):=match r with
 | none=>none
 | some (l,p,at')=>if p=x.length∧at'=end' then some l else none
theorem pcsO_by {x:List UInt8} {n end' v p e:Nat} (h:readU x 0=(v,p,e)):pcsO x n end'=if e ≠ 0∨v ≠ n then none else idxOk x end' (pcsF x end' n p 8 none):=by
 unfold pcsO;rw [h];rfl
theorem pc1_far {x:List UInt8} {p at' end' q:Nat} {prev:Option (List UInt8)} {c:PcR} (h:pc1 x p at' end' prev=some (c,q)):p < q∧q≤x.length:=by
 obtain ⟨a,p1,e1,h1⟩:∃ a p1 e1,readBy x (p:Int) (x.length:Int)=(a,p1,e1):=⟨_,_,_,rfl⟩
 obtain ⟨b,p2,e2,h2⟩:∃ b p2 e2,readBy x (p1:Int) (x.length:Int)=(b,p2,e2):=⟨_,_,_,rfl⟩
 obtain ⟨sz,p3,e3,h3⟩:∃ v p3 e3,readU x (p2:Int)=(v,p3,e3):=⟨_,_,_,rfl⟩
 rw [pc1_by h1 h2 h3] at h
 split at h
 ·cases h
 rename_i g1
 split at h
 ·cases h
 rename_i g2
 split at h
 ·cases h
 rename_i g3
 split at h
 ·cases h
 split at h
 ·cases h
 split at h
 ·cases h
 injection h with h
 injection h with _ h
 subst h
 have k1:=readBy_end x p (x.length:Int) (by rw [h1];exact Decidable.byContradiction g1)
 have k2:=readBy_end x p1 (x.length:Int) (by rw [h2];exact Decidable.byContradiction g2)
 have k3:=readU_end x (p2:Int) (by rw [h3];exact Decidable.byContradiction g3)
 rw [h1] at k1
 rw [h2] at k2
 rw [h3] at k3
 have m1:p < p1:=k1.2.2.2.1
 have m2:p1 < p2:=k2.2.2.2.1
 have m3:p2 < p3:=k3.2.2
 have m4:p3≤x.length:=k3.1
 omega
theorem pcsF_len {x:List UInt8} {end':Nat}:∀ {n p at':Nat} {prev:Option (List UInt8)} {l:List PcR} {q a:Nat},pcsF x end' n p at' prev=some (l,q,a)→l.length=n∧p + n≤q
 | 0,p,at',prev,l,q,a,h=>by
  have h:some (([]:List PcR),p,at')=some (l,q,a):=h
  injection h with h;injection h with h1 h;injection h with h2 h3
  subst h1 h2;exact ⟨rfl,Nat.le_refl _⟩
 | n + 1,p,at',prev,l,q,a,h=>by
  have h:(match pc1 x p at' end' prev with
   | none=>none
   | some (c,q)=>match pcsF x end' n q c.hi (some c.b) with
    | none=>none
    | some (l,r)=>some (c::l,r))=some (l,q,a):=h
  cases hc:pc1 x p at' end' prev with
  | none=>rw [hc] at h;cases h
  | some v =>
   obtain ⟨c,q0⟩:=v
   rw [hc] at h
   dsimp only at h
   cases hf:pcsF x end' n q0 c.hi (some c.b) with
   | none=>rw [hf] at h;cases h
   | some v =>
    obtain ⟨l0,q1,a1⟩:=v
    rw [hf] at h
    injection h with h;injection h with h1 h;injection h with h2 h3
    subst h1 h2
    have ih:=pcsF_len hf
    have hfar:=(pc1_far hc).1
    rw [List.length_cons]
    omega
theorem pcsO_len {x:List UInt8} {n end':Nat} {l:List PcR} (h:pcsO x n end'=some l):l.length=n∧n≤x.length:=by
 obtain ⟨v,p,e,hr⟩:∃ v p e,readU x 0=(v,p,e):=⟨_,_,_,rfl⟩
 rw [pcsO_by hr] at h
 split at h
 ·cases h
 cases hf:pcsF x end' n p 8 none with
 | none=>rw [hf] at h;cases h
 | some v =>
  obtain ⟨l0,q,a⟩:=v
  rw [hf] at h
  have h:(if q=x.length∧a=end' then some l0 else none)=some l:=h
  split at h
  ·rename_i hh
   injection h with h
   subst h
   have:=pcsF_len hf
   omega
  ·cases h
theorem openP_no {b:List UInt8} (h:numsO b=none):openP b=none:=by
 unfold openP
 split
 ·rfl
 ·rw [h]
theorem openP_pre {b:List UInt8} (h:b.take 8 ≠ magR):openP b=none:=by unfold openP;rw [if_pos h]
theorem openP_is {b f:List UInt8} (h:b.take 8=magR) (hf:footO b=some f) (ha:allOk f=true):openP b=openN b [numAt f 0,numAt f 1,numAt f 2,numAt f 3,numAt f 4,numAt f 5,numAt f 6]:=by
 unfold openP
 rw [if_neg (fun hh=>hh h)]
 unfold numsO
 rw [hf]
 dsimp only
 rw [ha]
 rfl
theorem openN_is {b:List UInt8} (count index low clock blocks fAt iAt:Nat):openN b [count,index,low,clock,blocks,fAt,iAt] =
  if sealI index low clock=false∨blocks < 1∨count < blocks then none
  else if fAt < 8∨iAt < fAt + 4∨b.length < iAt + 72 then none
  else if unsB (cutS b fAt (iAt - fAt))=false∨unsB (cutS b iAt (b.length - 68 - iAt))=false then none
  else if cutS b fAt (iAt - fAt - 4) ≠ []∧isF (cutS b fAt (iAt - fAt - 4))=false then none
  else match pcsO (cutS b iAt (b.length - 72 - iAt)) blocks fAt with
   | none=>none
   | some l=>some ⟨b,count,index,low,clock,cutS b fAt (iAt - fAt - 4),l⟩:=rfl
theorem openN_many {b:List UInt8} {count index low clock blocks fAt iAt:Nat} (h:b.length < blocks):openN b [count,index,low,clock,blocks,fAt,iAt]=none:=by
 rw [openN_is]
 split
 ·rfl
 split
 ·rfl
 split
 ·rfl
 split
 ·rfl
 split
 ·rfl
 rename_i l hl
 have h1:=(pcsO_len hl).2
 have h2:(cutS b iAt (b.length - 72 - iAt)).length≤b.length:=by unfold cutS;rw [List.length_take,List.length_drop];omega
 omega
theorem openR_none {b:List UInt8} (hl:b.length≤16777216) (h:openP b=none):openR7 b=(none,72):=by unfold openR7;rw [if_neg (by omega),h]
theorem openR_some {b:List UInt8} {r:RunR} (hl:b.length≤16777216) (h:openP b=some r):openR7 b=(some r,0):=by unfold openR7;rw [if_neg (by omega),h]
theorem openR_long {b:List UInt8} (hl:16777216 < b.length):openR7 b=(none,2):=by unfold openR7;rw [if_pos hl]
structure PcIn (a z:Nat) (p:PcR):Prop where
  lo:a≤p.lo
  mid:p.lo < p.hi
  hi:p.hi≤z
  ka:(ParseKeyE p.a).2=0
  kb:(ParseKeyE p.b).2=0
theorem PcIn.wide {a a' z:Nat} {p:PcR} (h:PcIn a z p) (ha:a'≤a):PcIn a' z p:=⟨Nat.le_trans ha h.lo,h.mid,h.hi,h.ka,h.kb⟩
theorem pc1_in {x:List UInt8} {p at' end' q:Nat} {prev:Option (List UInt8)} {c:PcR} (h:pc1 x p at' end' prev=some (c,q)):PcIn at' end' c∧c.lo=at':=by
 obtain ⟨a,p1,e1,h1⟩:∃ a p1 e1,readBy x (p:Int) (x.length:Int)=(a,p1,e1):=⟨_,_,_,rfl⟩
 obtain ⟨b,p2,e2,h2⟩:∃ b p2 e2,readBy x (p1:Int) (x.length:Int)=(b,p2,e2):=⟨_,_,_,rfl⟩
 obtain ⟨sz,p3,e3,h3⟩:∃ s p3 e3,readU x (p2:Int)=(s,p3,e3):=⟨_,_,_,rfl⟩
 rw [pc1_by h1 h2 h3] at h
 split at h
 ·cases h
 split at h
 ·cases h
 split at h
 ·cases h
 split at h
 ·cases h
 rename_i hs
 split at h
 ·cases h
 rename_i hk
 split at h
 ·cases h
 injection h with h
 injection h with h _
 subst h
 have hk1:(ParseKeyE a).2=0:=Decidable.byContradiction fun hh=>hk (.inl hh)
 have hk2:(ParseKeyE b).2=0:=Decidable.byContradiction fun hh=>hk (.inr (.inl hh))
 exact ⟨⟨Nat.le_refl _,by show at' < at' + sz;omega,by show at' + sz≤end';omega,hk1,hk2⟩,rfl⟩
theorem pcsF_in {x:List UInt8} {end':Nat}:∀ {n p at':Nat} {prev:Option (List UInt8)} {l:List PcR} {r:Nat×Nat},pcsF x end' n p at' prev=some (l,r)→∀ c ∈ l,PcIn at' end' c
 | 0,_,_,_,l,r,h,c,hc=>by
  injection h with h
  injection h with h _
  subst h
  cases hc
 | n + 1,p,at',prev,l,r,h,c,hc=>by
  cases h1:pc1 x p at' end' prev with
  | none=>rw [pcsF_none h1] at h;cases h
  | some v =>
   obtain ⟨c1,q⟩:=v
   have h2:=pcsF_some (n:=n) h1 []
   rw [pcsG_nil,h] at h2
   have h3:=pc1_in h1
   cases h4:pcsF x end' n q c1.hi (some c1.b) with
   | none=>rw [h4] at h2;cases h2
   | some v2 =>
    obtain ⟨l2,r2⟩:=v2
    rw [h4] at h2
    injection h2 with h2
    injection h2 with h2 _
    subst h2
    rcases List.mem_append.1 hc with hc | hc
    ·rcases List.mem_cons.1 hc with rfl | hc
     ·exact h3.1
     ·cases hc
    ·exact (pcsF_in h4 c hc).wide (by have:=h3.1.mid;have:=h3.1.lo;omega)
theorem pcsO_in {x:List UInt8} {n end':Nat} {l:List PcR} (h:pcsO x n end'=some l):∀ c ∈ l,PcIn 8 end' c:=by
 intro c hc
 unfold pcsO at h
 split at h
 ·cases h
 split at h
 ·cases h
 rename_i l' p at' hp
 split at h
 ·injection h with h
  subst h
  exact pcsF_in hp c hc
 ·cases h
theorem openR7_in {b:List UInt8} {r:RunR} (h:openR7 b=(some r,0)):r.bytes=b∧b.length≤16777216∧∀ c ∈ r.ps,PcIn 8 b.length c:=by
 unfold openR7 at h
 split at h
 ·cases h
 rename_i hlen
 split at h
 ·cases h
 rename_i r' hr
 injection h with h _
 injection h with h
 subst h
 unfold openP at hr
 split at hr
 ·cases hr
 split at hr
 ·cases hr
 rename_i ns hns
 unfold openN at hr
 split at hr
 ·split at hr
  ·cases hr
  split at hr
  ·cases hr
  rename_i hb
  split at hr
  ·cases hr
  split at hr
  ·cases hr
  split at hr
  ·cases hr
  rename_i l hl
  injection hr with hr
  subst hr
  refine ⟨rfl,by omega,fun c hc=>?_⟩
  have h1:=pcsO_in hl c hc
  exact ⟨h1.lo,h1.mid,by have:=h1.hi;omega,h1.ka,h1.kb⟩
 ·cases hr
structure PcOk (p:PcR):Prop where
  ka:(ParseKeyE p.a).2=0
  kb:(ParseKeyE p.b).2=0
  le:cmpB p.a p.b≤0
def PsAsc (l:List PcR):Prop:=(∀ p,p ∈ l→PcOk p)∧l.Pairwise fun p q=>cmpB p.b q.a < 0
theorem cmpB_lt_le {a b c:List UInt8} (h1:cmpB a b < 0) (h2:cmpB b c≤0):cmpB a c < 0:=by
 rcases Int.lt_or_eq_of_le h2 with h | h
 ·exact cmpB_lt_trans h1 h
 ·rw [← cmpB_zero _ _ h];exact h1
theorem pc1_ok {x:List UInt8} {p at' end' q:Nat} {prev:Option (List UInt8)} {c:PcR} (h:pc1 x p at' end' prev=some (c,q)):PcOk c∧behR prev c.a=false:=by
 obtain ⟨a,p1,e1,h1⟩:∃ a p1 e1,readBy x (p:Int) (x.length:Int)=(a,p1,e1):=⟨_,_,_,rfl⟩
 obtain ⟨b,p2,e2,h2⟩:∃ b p2 e2,readBy x (p1:Int) (x.length:Int)=(b,p2,e2):=⟨_,_,_,rfl⟩
 obtain ⟨sz,p3,e3,h3⟩:∃ s p3 e3,readU x (p2:Int)=(s,p3,e3):=⟨_,_,_,rfl⟩
 rw [pc1_by h1 h2 h3] at h
 split at h
 ·cases h
 split at h
 ·cases h
 split at h
 ·cases h
 split at h
 ·cases h
 split at h
 ·cases h
 rename_i hk
 split at h
 ·cases h
 rename_i hb
 injection h with h
 injection h with h _
 subst h
 refine ⟨⟨Decidable.byContradiction fun hh=>hk (.inl hh),Decidable.byContradiction fun hh=>hk (.inr (.inl hh)),?_⟩,by simpa using hb⟩
 exact Int.not_lt.1 fun hh=>hk (.inr (.inr hh))
theorem pcsF_asc {x:List UInt8} {end':Nat}:∀ {n p at':Nat} {prev:Option (List UInt8)} {l:List PcR} {r:Nat×Nat},pcsF x end' n p at' prev=some (l,r)→PsAsc l∧∀ k,prev=some k→∀ c,c ∈ l→cmpB k c.a < 0
 | 0,_,_,_,l,r,h=>by
  injection h with h
  injection h with h _
  subst h
  exact ⟨⟨fun _ h=>(by cases h),List.Pairwise.nil⟩,fun _ _ _ h=>(by cases h)⟩
 | n + 1,p,at',prev,l,r,h=>by
  cases h1:pc1 x p at' end' prev with
  | none=>rw [pcsF_none h1] at h;cases h
  | some v =>
   obtain ⟨c1,q⟩:=v
   have h2:=pcsF_some (n:=n) h1 []
   rw [pcsG_nil,h] at h2
   obtain ⟨h3,h3b⟩:=pc1_ok h1
   cases h4:pcsF x end' n q c1.hi (some c1.b) with
   | none=>rw [h4] at h2;cases h2
   | some v2 =>
    obtain ⟨l2,r2⟩:=v2
    rw [h4] at h2
    injection h2 with h2
    injection h2 with h2 _
    have h2:l=c1::l2:=h2
    subst h2
    obtain ⟨⟨i1,i2⟩,i3⟩:=pcsF_asc h4
    refine ⟨⟨fun c hc=>?_,List.Pairwise.cons (fun c hc=>i3 _ rfl c hc) i2⟩,fun k hk c hc=>?_⟩
    ·rcases List.mem_cons.1 hc with rfl | hc
     ·exact h3
     ·exact i1 c hc
    ·subst hk
     have hk1:cmpB k c1.a < 0:=by
      have:decide (0≤cmpB k c1.a)=false:=h3b
      have:=of_decide_eq_false this
      omega
     rcases List.mem_cons.1 hc with rfl | hc
     ·exact hk1
     ·exact cmpB_lt_trans (cmpB_lt_le hk1 h3.le) (i3 _ rfl c hc)
theorem pcsO_asc {x:List UInt8} {n end':Nat} {l:List PcR} (h:pcsO x n end'=some l):PsAsc l:=by
 unfold pcsO at h
 split at h
 ·cases h
 split at h
 ·cases h
 rename_i l' p at' hp
 split at h
 ·injection h with h
  subst h
  exact (pcsF_asc hp).1
 ·cases h
theorem cutS_le9 (l:List UInt8) (k m:Nat):(cutS l k m).length≤l.length:=by
 unfold cutS;rw [List.length_take,List.length_drop];omega
theorem openR7_asc {b:List UInt8} {r:RunR} (h:openR7 b=(some r,0)):PsAsc r.ps∧r.ps.length≤16777216:=by
 unfold openR7 at h
 split at h
 ·cases h
 rename_i hlen
 split at h
 ·cases h
 rename_i r' hr
 injection h with h _
 injection h with h
 subst h
 unfold openP at hr
 split at hr
 ·cases hr
 split at hr
 ·cases hr
 rename_i ns hns
 unfold openN at hr
 split at hr
 ·split at hr
  ·cases hr
  split at hr
  ·cases hr
  split at hr
  ·cases hr
  split at hr
  ·cases hr
  split at hr
  ·cases hr
  rename_i l hl
  injection hr with hr
  subst hr
  refine ⟨pcsO_asc hl,?_⟩
  have h1:=(pcsO_len hl).1
  have h2:=(pcsO_len hl).2
  exact Nat.le_trans (Nat.le_of_eq h1) (Nat.le_trans h2 (Nat.le_trans (cutS_le9 _ _ _) (by omega)))
 ·cases hr
def valS (L:List Ent):Nat:=(L.map fun e=>e.val.length).sum
theorem valS_app (a b:List Ent):valS (a ++ b)=valS a + valS b:=by unfold valS;rw [List.map_append,List.sum_append_nat]
theorem valS_le {n:Nat}:∀ {L:List Ent},(∀ e,e ∈ L→e.val.length≤n)→valS L≤L.length * n
 | [],_=>Nat.zero_le _
 | e::L,h=>by
  have h1:=valS_le (L:=L) fun x hx=>h x (.tail _ hx)
  have h2:=h e (.head _)
  show e.val.length + valS L≤(L.length + 1) * n
  rw [Nat.succ_mul];omega
theorem rowK_ln9 {al n:Nat} {k v:List UInt8} (ha:al≤k.length) (hk:k.length≤n) (hn:n≤1048) (hv:v.length≤4096):(rowK al k v).length≤v.length + n + 30:=by
 unfold rowK
 simp only [List.length_append,List.length_drop]
 have h1:=uintB_10 (v:=al) (by omega)
 have h2:=uintB_10 (v:=k.length - al) (by omega)
 have h3:=uintB_10 (v:=v.length) (by omega)
 omega
theorem szR_le {n:Nat} (hn:n≤1048):∀ (L:List Ent) (s:BSt),(∀ e,e ∈ L→checkE e=0∧(keyE e).length≤n)→sizeS (runE 16 s L)≤sizeS s + valS L + L.length * (n + 34)
 | [],s,_=>by show sizeS s≤_;omega
 | e::L,s,h=>by
  obtain ⟨hc,hk⟩:=h e (.head _)
  have h1:=szR_le hn L (stepB 16 s (keyE e) e.val) fun x hx=>h x (.tail _ hx)
  have h2:=rowK_ln9 (alike_le 16 s (keyE e)).2 hk hn (ok_of hc).val.1
  have h3:=size_step5 16 s (keyE e) e.val
  show sizeS (runE 16 (stepB 16 s (keyE e) e.val) L)≤sizeS s + (e.val.length + valS L) + (L.length + 1) * (n + 34)
  rw [Nat.succ_mul]
  split at h3 <;> omega
theorem lay_le {n:Nat} (hn:n≤1048) {c:List Ent} (hc:c ≠ []) (h:∀ e,e ∈ c→checkE e=0∧(keyE e).length≤n):(layB 16 c).length≤9 + valS c + c.length * (n + 34):=by
 rw [layB_len 16 hc]
 have:=szR_le hn c bst0 h
 have h0:sizeS bst0=9:=rfl
 rw [h0] at this
 exact this
theorem blocks_le {n:Nat} (hn:n≤1048):∀ {cs:List (List Ent)},(∀ c,c ∈ cs→ChOk c∧∀ e,e ∈ c→(keyE e).length≤n)→(blocksR cs).length≤9 * cs.length + valS cs.flatten + cs.flatten.length * (n + 34)∧(partsR cs).length≤cs.length * (2 * n + 30)
 | [],_=>⟨Nat.zero_le _,Nat.zero_le _⟩
 | c::cs,h=>by
  obtain ⟨h1,h2⟩:=blocks_le hn (cs:=cs) fun d hd=>h d (.tail _ hd)
  obtain ⟨hc,hk⟩:=h c (.head _)
  have h3:=lay_le hn hc.ne fun e he=>⟨hc.chk e he,hk e he⟩
  obtain ⟨a,_,ma,e1⟩:=hc.first
  obtain ⟨b,_,mb,e2⟩:=hc.last
  have ka:=hk a ma
  have kb:=hk b mb
  have h4:=build_len hc.bld hc.ne
  have h5:=uintB_10 (v:=(keyE a).length) (by omega)
  have h6:=uintB_10 (v:=(keyE b).length) (by omega)
  have h7:=uintB_10 (v:=(layB 16 c).length) (by omega)
  constructor
  ·rw [blocksR_cons,List.length_append,List.flatten_cons,valS_app,List.length_append,List.length_cons,Nat.add_mul]
   omega
  ·rw [partsR_cons,List.length_append,List.length_cons,Nat.succ_mul]
   have:(partR c).length=((uintB (keyE a).length).length + (keyE a).length) + ((uintB (keyE b).length).length + (keyE b).length) + (uintB (layB 16 c).length).length:=by
    unfold partR;rw [e1,e2];unfold keyB;simp only [List.length_append]
   omega
theorem filt_le {o:OptR} {L:List Ent} (hb:o.bits≤20):(filtR o L).length≤16 + 3 * L.length:=by
 unfold filtR
 split
 ·rw [buildB_length]
  have h1:=unl_le (rowsE L)
  have h2:=rowsE_le L
  have h3:(unl (rowsE L)).length * o.bits.toNat≤L.length * 20:=Nat.mul_le_mul (by omega) (by omega)
  unfold buildM
  omega
 ·exact Nat.zero_le _
theorem run_le {o:OptR} {L:List Ent} {n:Nat} (h:refuseR o L=0) (hn:n≤1048) (hk:∀ e,e ∈ L→(keyE e).length≤n) (hl:L.length≤1000000):(runBy o L).length≤valS L + L.length * (3 * n + 76) + 128:=by
 obtain ⟨h1,h2,h3⟩:=refuse_ok h
 obtain ⟨⟨b1,b2,b3,b4⟩,hse⟩:=optOk.iff h1
 obtain ⟨hch,_⟩:=cut_ch (t:=o.block.toNat) (by omega) h3
 have hct:=cut_count fun c hc=>(hch c hc).ne
 have hf:(cutR o.block.toNat [] L).flatten=L:=by rw [cutR_flat];rfl
 obtain ⟨cs,hcs⟩:∃ z,z=cutR o.block.toNat [] L:=⟨_,rfl⟩
 have hcm:∀ c,c ∈ cs→ChOk c∧∀ e,e ∈ c→(keyE e).length≤n:=fun c hc=>by
  rw [hcs] at hc
  exact ⟨hch c hc,fun e he=>hk e (by rw [← hf];exact List.mem_flatten.2 ⟨c,hc,he⟩)⟩
 rw [← hcs] at hct hf
 obtain ⟨h4,h5⟩:=blocks_le hn hcm
 rw [hf] at h4
 have h6:=filt_le (o:=o) (L:=L) b4
 have h7:(runBy o L).length=8 + (blocksR cs).length + ((filtR o L).length + 4) + ((uintB cs.length).length + (partsR cs).length + 4) + 68:=by
  unfold runBy runC
  rw [← hcs]
  unfold headR indexR
  simp only [List.length_append,sumdB_len,frameB_length,risBs_len]
  rfl
 have h8:=uintB_10 (v:=cs.length) (by omega)
 have h9:cs.length * (2 * n + 30)≤L.length * (2 * n + 30):=Nat.mul_le_mul_right _ hct
 have h10:L.length * (3 * n + 76)=L.length * (n + 34) + L.length * (2 * n + 30) + L.length * 12:=by
  rw [← Nat.mul_add,← Nat.mul_add];congr 1;omega
 omega
theorem run_small {o:OptR} {L:List Ent} (h:refuseR o L=0) (hl:L.length≤500):(runBy o L).length≤16777216:=by
 obtain ⟨h1,h2,h3⟩:=refuse_ok h
 have h4:=run_le h (Nat.le_refl 1048) (fun e he=>keyE_len (ok_of (h3.chk e he))) (by omega)
 have h5:=valS_le (n:=4096) fun e he=>(ok_of (h3.chk e he)).val.1
 have h6:L.length * 4096≤500 * 4096:=Nat.mul_le_mul_right _ hl
 have h7:L.length * (3 * 1048 + 76)≤500 * (3 * 1048 + 76):=Nat.mul_le_mul_right _ hl
 omega
theorem write_open {o:OptR} {L:List Ent} (h:refuseR o L=0) (hn:L.length≤1000000) (hl:(runBy o L).length≤16777216):writeR o L=(runBy o L,0)∧openR7 (runBy o L)=(some (runW o L),0):=by
 constructor
 ·unfold writeR
  rw [if_neg (by rw [h];decide),if_neg (by omega)]
 ·unfold openR7
  rw [if_neg (by omega),open_back h hn hl]
  rfl
def ordStep (index:Int) (m:List Ent) (e:Ent):List Ent:=if checkE e ≠ 0∨16 * index + 15 < e.seq then m else insE m e
def ordL (index:Int) (es:List Ent):List Ent:=es.foldl (ordStep index) []
theorem ordL_snoc (index:Int) (es:List Ent) (e:Ent):ordL index (es ++ [e])=ordStep index (ordL index es) e:=by unfold ordL;rw [List.foldl_append];rfl
structure OrdOk (index:Int) (m:List Ent):Prop where
  asc:AscE m
  chk:∀ e,e ∈ m→checkE e=0
  seq:∀ e,e ∈ m→e.seq≤16 * index + 15
theorem ins_mem {m:List Ent} {e x:Ent} (h:x ∈ insE m e):x ∈ m∨x=e:=by
 unfold insE at h
 split at h
 ·exact .inl h
 ·rcases List.mem_append.1 h with h1 | h1
  ·exact .inl (List.mem_of_mem_take h1)
  ·rcases List.mem_cons.1 h1 with rfl | h1
   ·exact .inr rfl
   ·exact .inl (List.mem_of_mem_drop h1)
theorem ordStep_ok {index:Int} {m:List Ent} (h:OrdOk index m) (e:Ent):OrdOk index (ordStep index m e):=by
 unfold ordStep
 split
 ·exact h
 ·rename_i hc
  refine ⟨ins_asc h.asc e,fun x hx=>?_,fun x hx=>?_⟩
  ·rcases ins_mem hx with h1 | rfl
   ·exact h.chk x h1
   ·exact Decidable.byContradiction fun hh=>hc (.inl hh)
  ·rcases ins_mem hx with h1 | rfl
   ·exact h.seq x h1
   ·exact Int.not_lt.1 fun hh=>hc (.inr hh)
theorem ord_ok (index:Int) (es:List Ent):OrdOk index (ordL index es):=by
 have h:∀ (es m:List Ent),OrdOk index m→OrdOk index (es.foldl (ordStep index) m):=by
  intro es
  induction es with
  | nil=>intro m h;exact h
  | cons e es ih=>intro m h;exact ih _ (ordStep_ok h e)
 exact h es [] ⟨List.Pairwise.nil,fun e h=>(by cases h),fun e h=>(by cases h)⟩
theorem ord_len (index:Int) (es:List Ent):(ordL index es).length≤es.length:=by
 have h:∀ (es m:List Ent),(es.foldl (ordStep index) m).length≤m.length + es.length:=by
  intro es
  induction es with
  | nil=>intro m;exact Nat.le_refl _
  | cons e es ih =>
   intro m
   have h1:=ih (ordStep index m e)
   have h2:(ordStep index m e).length≤m.length + 1:=by
    unfold ordStep
    split
    ·omega
    ·exact ins_len m e
   simp only [List.foldl_cons,List.length_cons]
   omega
 have h1:=h es []
 rw [List.length_nil,Nat.zero_add] at h1
 exact h1
theorem look_of {index:Int}:∀ {L:List Ent} {p:Option Ent},OrdOk index L→(∀ q e,p=some q→L[0]?=some e→cmpE q e < 0)→lookE index p L=0
 | [],p,_,_=>by cases p <;> rfl
 | e::r,p,h,hp=>by
  have h1:checkE e=0:=h.chk e (.head _)
  have h2:=h.seq e (.head _)
  have h3:outP p e=false:=by
   cases p with
   | none=>rfl
   | some q=>exact decide_eq_false (by have:=hp q e rfl rfl;omega)
  obtain ⟨a1,a2⟩:=List.pairwise_cons.1 h.asc
  unfold lookE
  rw [if_neg (by simp [h1]),if_neg (by omega),h3,if_neg (by decide)]
  exact look_of ⟨a2,fun x hx=>h.chk x (.tail _ hx),fun x hx=>h.seq x (.tail _ hx)⟩ fun q x hq hx=>by
   injection hq with hq
   subst hq
   exact a1 x (List.mem_of_getElem? hx)
theorem refuse_of {o:OptR} {L:List Ent} (ho:optOk o=true) (hn:L ≠ []) (h:OrdOk o.index L):refuseR o L=0:=by
 unfold refuseR
 rw [if_neg (by simp [ho]),if_neg hn]
 exact look_of h fun q e hq=>by cases hq
def wholeI (n lo hi:Int):Int:=if n.tmod (hi - lo + 1) < 0 then lo + (n.tmod (hi - lo + 1) + hi - lo + 1) else lo + n.tmod (hi - lo + 1)
theorem wholeI_in (n lo hi:Int) (h:lo≤hi):lo≤wholeI n lo hi∧wholeI n lo hi≤hi:=by
 have h1:=Int.tmod_lt_of_pos n (show 0 < hi - lo + 1 by omega)
 have h2:=Int.lt_tmod_of_pos n (show 0 < hi - lo + 1 by omega)
 unfold wholeI
 split <;> omega
def optF (o:OptR):OptR:=⟨wholeI o.block 64 65536,wholeI o.bits 0 20,wholeI o.index 0 1099511627776,wholeI o.low 0 (wholeI o.clock 1 1099511627776 - 1),wholeI o.clock 1 1099511627776⟩
theorem optF_ok (o:OptR):optOk (optF o)=true:=by
 have h1:=wholeI_in o.block 64 65536 (by decide)
 have h2:=wholeI_in o.bits 0 20 (by decide)
 have h3:=wholeI_in o.index 0 1099511627776 (by decide)
 have h4:=wholeI_in o.clock 1 1099511627776 (by decide)
 have h5:=wholeI_in o.low 0 (wholeI o.clock 1 1099511627776 - 1) (by omega)
 unfold optOk sealI optF
 simp only [Bool.and_eq_true,decide_eq_true_eq]
 omega
def optX (o:OptR):OptR:={ optF o with index:=1099511627776 }
theorem optX_ok (o:OptR):optOk (optX o)=true:=by
 have h1:=optF_ok o
 unfold optOk sealI at h1 ⊢
 simp only [Bool.and_eq_true,decide_eq_true_eq] at h1 ⊢
 show _∧_
 refine ⟨h1.1,⟨⟨⟨⟨?_,?_⟩,h1.2.1.1.1.2⟩,h1.2.1.1.2⟩,h1.2.1.2⟩,h1.2.2⟩
 ·show (0:Int)≤1099511627776;decide
 ·show (1099511627776:Int)≤1099511627776;decide
def mayR (r:RunR) (row:List UInt8):Bool:=match r.ps.head?,r.ps.getLast? with
 | some p,some q=>if cmpB row (keyP p.a).row < 0∨0 < cmpB row (keyP q.b).row then false else if r.filt=[] then true else hasB r.filt row || !isF r.filt
 | _,_=>false
theorem filter_has (p m:Nat) (S:Nat→Bool) (k:List UInt8) (hp1:1≤p) (hp2:p≤14) (hm1:64≤m) (hm2:m≤20971520) (h8:m % 8=0) (h:∀ i ∈ placesN k p m,S i=true):hasB (filterB p m S) k=true:=by
 unfold hasB
 obtain ⟨e1,e2⟩:=filterB_shape p m S (by omega) (by omega)
 rw [filterB_isF p m S hp1 hp2 hm1 hm2 h8,e1,e2,Bool.true_and,List.all_eq_true]
 intro i hi
 have hlt:i < m:=by
  obtain ⟨t,_,rfl⟩:=List.mem_map.1 hi
  exact placeN_lt _ _ _ (by omega)
 rw [filterB_bit p m S i hlt h8]
 exact h i hi
theorem filt_has {bits:Int} {ks:List (List UInt8)} (ha:buildE bits ks=0) {k:List UInt8} (hk:k ∈ ks):hasB (buildB bits ks) k=true :=
 filter_has _ _ _ _ (buildP_le ha).1 (buildP_le ha).2 (buildM_ge _ _) (buildM_le ha) (buildM_mod _ _) fun _ hi=>List.any_eq_true.2 ⟨k,hk,List.contains_iff_mem.2 hi⟩
theorem pcsOf_last:∀ (cs:List (List Ent)) (a:Nat),cs ≠ []→∃ q c,(pcsOf a cs).getLast?=some q∧cs.getLast?=some c∧q.b=lastK c
 | [],_,h=>absurd rfl h
 | [c],a,_=>⟨_,c,rfl,rfl,rfl⟩
 | c::d::cs,a,_=>by
  obtain ⟨q,e,h1,h2,h3⟩:=pcsOf_last (d::cs) (a + (layB 16 c).length) (by simp)
  refine ⟨q,e,?_,by rw [List.getLast?_cons_cons];exact h2,h3⟩
  show (_::pcsOf _ (d::cs)).getLast?=some q
  unfold pcsOf at h1 ⊢
  rw [List.getLast?_cons_cons];exact h1
theorem flat_last:∀ (cs:List (List Ent)) (c:List Ent),cs.getLast?=some c→c ≠ []→cs.flatten.getLast?=c.getLast?
 | [],_,h,_=>by cases h
 | [a],c,h,_=>by
  injection h with h
  subst h
  simp
 | a::b::cs,c,h,hc=>by
  rw [List.getLast?_cons_cons] at h
  have ih:=flat_last (b::cs) c h hc
  rw [List.flatten_cons,List.getLast?_append,ih]
  cases hcl:c.getLast? with
  | none=>rw [List.getLast?_eq_none_iff] at hcl;exact absurd hcl hc
  | some x=>rfl
theorem runW_ends {o:OptR} {L:List Ent} (h:refuseR o L=0):∃ p q a b,(runW o L).ps.head?=some p∧(runW o L).ps.getLast?=some q∧L[0]?=some a∧L[L.length - 1]?=some b∧p.a=keyE a∧q.b=keyE b:=by
 obtain ⟨h1,h2,h3⟩:=refuse_ok h
 obtain ⟨⟨b1,b2,b3,b4⟩,hse⟩:=optOk.iff h1
 obtain ⟨hch,_⟩:=cut_ch (t:=o.block.toNat) (by omega) h3
 have hf:(cutR o.block.toNat [] L).flatten=L:=by rw [cutR_flat];rfl
 have hne:=cut_ne (t:=o.block.toNat) h2
 show ∃ p q a b,(pcsOf 8 (cutR o.block.toNat [] L)).head?=some p∧(pcsOf 8 (cutR o.block.toNat [] L)).getLast?=some q∧_
 obtain ⟨cs,hcs⟩:∃ z,z=cutR o.block.toNat [] L:=⟨_,rfl⟩
 rw [← hcs] at hch hf hne ⊢
 obtain ⟨q,c,q1,q2,q3⟩:=pcsOf_last cs 8 hne
 have hcc:=hch c (List.mem_of_getLast? q2)
 have hl:=flat_last cs c q2 hcc.ne
 rw [hf] at hl
 obtain ⟨b,hb,mb,kb⟩:=hcc.last
 match cs,hne,hf,hch,q1 with
 | d::ds,_,hf,hch,q1 =>
  obtain ⟨a,ha,ma,ka⟩:=(hch d (.head _)).first
  refine ⟨⟨firstK d,lastK d,8,8 + (layB 16 d).length⟩,q,a,b,rfl,q1,?_,?_,ka,by rw [q3,kb]⟩
  ·rw [← hf,List.flatten_cons,List.getElem?_append_left (List.length_pos_iff.2 (hch d (.head _)).ne)];exact ha
  ·rw [← List.getLast?_eq_getElem?,hl,List.getLast?_eq_getElem?];exact hb
theorem row_cmp9 {a b:Ent} (h:cmpE a b < 0):cmpB a.row b.row≤0:=by
 unfold cmpE seqC at h
 split at h
 ·rename_i h0;omega
 ·omega
theorem keyP_row {e:Ent} (h:checkE e=0):(keyP (keyE e)).row=e.row:=by unfold keyP;rw [keyP_key h]
theorem may_yes {o:OptR} {L:List Ent} (h:refuseR o L=0) (hn:L.length≤1000000) {e:Ent} (he:e ∈ L):mayR (runW o L) e.row=true:=by
 obtain ⟨p,q,a,b,h1,h2,h3,h4,h5,h6⟩:=runW_ends h
 obtain ⟨g1,g2,g3⟩:=refuse_ok h
 obtain ⟨⟨b1,b2,b3,b4⟩,hse⟩:=optOk.iff g1
 have ma:=List.mem_of_getElem? h3
 have mb:=List.mem_of_getElem? h4
 have hasc:=List.pairwise_iff_getElem.1 g3.ascE
 obtain ⟨i,hi,hie⟩:=List.getElem_of_mem he
 have la:cmpB a.row e.row≤0:=by
  obtain ⟨k0,e0⟩:=List.getElem?_eq_some_iff.1 h3
  by_cases hz:i=0
  ·subst hz;rw [← e0,hie,cmpB_self];exact Int.le_refl _
  ·have:=hasc 0 i k0 hi (by omega)
   rw [e0,hie] at this
   exact row_cmp9 this
 have lb:cmpB e.row b.row≤0:=by
  obtain ⟨k0,e0⟩:=List.getElem?_eq_some_iff.1 h4
  by_cases hz:i=L.length - 1
  ·subst hz;rw [← e0,hie,cmpB_self];exact Int.le_refl _
  ·have:=hasc i (L.length - 1) hi k0 (by omega)
   rw [e0,hie] at this
   exact row_cmp9 this
 have sa:=cmpB_swap a.row e.row
 unfold mayR
 rw [h1,h2]
 dsimp only
 rw [h5,h6,keyP_row (g3.chk a ma),keyP_row (g3.chk b mb),if_neg (by omega)]
 split
 ·rfl
 ·rename_i hf
  have hf:filtR o L ≠ []:=hf
  show (hasB (filtR o L) e.row || !isF (filtR o L))=true
  unfold filtR at hf ⊢
  by_cases hb:0 < o.bits
  ·rw [if_pos hb,filt_has ?_ (rowsE_in he)]
   ·rfl
   ·unfold buildE
    rw [if_neg (by omega),if_neg (by have:=rowsE_le L;omega)]
  ·rw [if_neg hb] at hf;exact absurd rfl hf
theorem may_no {o:OptR} {L:List Ent} (h:refuseR o L=0) {a b:Ent} (ha:L[0]?=some a) (hb:L[L.length - 1]?=some b) {row:List UInt8} (hr:cmpB row a.row < 0∨0 < cmpB row b.row):mayR (runW o L) row=false:=by
 obtain ⟨p,q,a',b',h1,h2,h3,h4,h5,h6⟩:=runW_ends h
 obtain ⟨g1,g2,g3⟩:=refuse_ok h
 rw [ha] at h3
 rw [hb] at h4
 injection h3 with h3
 injection h4 with h4
 subst h3 h4
 unfold mayR
 rw [h1,h2]
 dsimp only
 rw [h5,h6,keyP_row (g3.chk a (List.mem_of_getElem? ha)),keyP_row (g3.chk b (List.mem_of_getElem? hb)),if_pos hr]
end Go.Proofs.YtfdbcfaeiglbeaaDoor
