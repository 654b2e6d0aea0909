/-
 Layer 7: the laws' tells; the list that begins with an entry of its own. (Printed by gen_runt1.py.)
-/
import Derived.Test.YtfdbcfaeiglbeaaGreatDoorRunV1
import Derived.Test.YtfdbcfaeiglbeaaGreatDoorRZ36
import Derived.Test.YtfdbcfaeiglbeaaGreatDoorRZ35
namespace Go.Proofs.YtfdbcfaeiglbeaaGreatDoor
open Go.RowKit
theorem first_chk9:checkE firstE=0:=by decide +kernel
theorem insE_ge (m:List Ent) (e:Ent):m.length≤(insE m e).length:=by
 unfold insE
 split
 ·omega
 ·rw [List.length_append,List.length_cons,List.length_take,List.length_drop];omega
theorem ordStep_ge (ix:Int) (m:List Ent) (e:Ent):m.length≤(ordStep ix m e).length:=by
 unfold ordStep
 split
 ·omega
 ·exact insE_ge m e
theorem fold_ge (ix:Int):∀ (es m:List Ent),m.length≤(es.foldl (ordStep ix) m).length
 | [],_=>Nat.le_refl _
 | e::es,m=>Nat.le_trans (ordStep_ge ix m e) (fold_ge ix es _)
theorem ordL_ne {ix:Int} (hi:33≤16 * ix + 15) (es:List Ent):ordL ix ((firstE::es).take 120) ≠ []:=fun h=>by
 have h1:=fold_ge ix (es.take 119) (ordStep ix [] firstE)
 have h2:ordL ix ((firstE::es).take 120)=(es.take 119).foldl (ordStep ix) (ordStep ix [] firstE):=by
  rw [List.take_succ_cons];rfl
 have h3:ordStep ix [] firstE=insE [] firstE:=by
  unfold ordStep
  rw [if_neg]
  rintro (h | h)
  ·exact h first_chk9
  ·have h:16 * ix + 15 < 33:=h
   omega
 have h4:(insE [] firstE).length=1:=by decide +kernel
 rw [← h2,h,h3,h4] at h1
 exact absurd h1 (by decide)
theorem first_len {es:List Ent} (h:∀ e,e ∈ es→e.row.length≤1048576∧e.qual.length≤1048576∧e.val.length≤1048576):∀ e,e ∈ firstE::es→e.row.length≤140737488355000∧e.qual.length≤140737488355000∧e.val.length≤140737488355000:=fun e he=>by
 rcases List.mem_cons.1 he with rfl | he
 ·exact ⟨by decide,by decide,by decide⟩
 ·obtain ⟨h1,h2,h3⟩:=h e he
  exact ⟨by omega,by omega,by omega⟩
theorem cells7_one (rs:List ER):∀ u ∈ rs.flatMap ER.cells,u.oneCell'=true:=fun u hu=>by
 obtain ⟨r,_,h⟩:=List.mem_flatMap.1 hu
 simp only [ER.cells,List.mem_cons,List.not_mem_nil,or_false] at h
 rcases h with rfl | rfl | rfl | rfl | rfl | rfl | rfl <;> rfl
theorem runC_ne (o:OptR) (L:List Ent):0 < (runBy o L).length:=by
 have h:runBy o L=magR ++ (blocksR (cutR o.block.toNat [] L) ++ (sumdB (filtR o L) ++ (sumdB (indexR (cutR o.block.toNat [] L)) ++ frameB (risBs (numsR o L (cutR o.block.toNat [] L)))))):=by
  unfold runBy runC headR;simp only [List.append_assoc]
 rw [h,List.length_append]
 show 0 < 8 + _
 omega
theorem open_zero {b:List UInt8} {r:RunR} {k:Int} (h:openR7 b=(some r,k)):k=0:=by
 unfold openR7 at h
 split at h
 ·cases h
 ·split at h
  ·cases h
  ·injection h with _ h;exact h.symm
set_option maxRecDepth 1000000 in
set_option maxHeartbeats 8000000 in
theorem tells7_any (o:OptR) (L:List Ent) (zs:List Int) (hz:Told zs) (hr:refuseR o L=0) (hn:L.length≤100000) (hl:(runBy o L).length≤16777216) (X:List UInt8) (hX:flipsB (runBy o L) zs=X) (hne:X ≠ runBy o L) (A:Option Addr) (n c:Nat) (LA:Option Addr) (m lc:Nat) (w:World) (hs:Sl w A n c X) (hE:Ens w LA m L) (hml:m≤lc) (ht:TabAt 0 w) :
  Calls Tryz.prog 52 #[.slice A n c,.slice LA m lc] w fun e z=>e = .returned (.bool true)∧Below w.heap.size w z:=by
 have HTB:Hid (∀ z,Below w.heap.size w z→TabAt 0 z):=Lib.hid fun z hz=>ht.later hz
 have HLE:Hid (∀ z,Below w.heap.size w z→Ens z LA m L):=Lib.hid fun z hz=>hE.later hz
 have HS0:=Lib.hid hs
 have hLm:=hE.len
 have tk1:True:=trivial
 rcases ho:openR7 X with ⟨r | r,k⟩
 ·have HO:=Lib.hid ho
  clear hs hE ht ho hX hne hz
  go_enter Tryz.func52,Tryz.ntmps52
  go_wp2_with (first
   | (go_at_call 17;go_must (refine (open_no7 HO.out HS0.out (HTB.out _ (Below.refl _ _))).mono ?_);rintro e x1 ⟨hk,rfl,hb⟩;have HB1:=Lib.hid hb;have hk1:(k != 0)=true:=bne_iff_ne.2 hk;clear hk hb)
   | (go_at_call 20;go_must (refine (num7_any k _).mono ?_);rintro e x2 ⟨rfl,rfl⟩))
  go_ret
  exact ⟨rfl,HB1.out⟩
 ·obtain rfl:=open_zero ho
  obtain ⟨⟨hrc,hri⟩,K,T,j,hT,hKT,hall,hver⟩:=run_told hz hr (by omega) hl (by rw [hX];exact hne) (by rw [hX];exact ho)
  have HO:=Lib.hid ho
  have HV:=Lib.hid hver
  have HA:=Lib.hid hall
  have HKL:Hid (K.length≤r.count):=Lib.hid (by rw [hrc,hKT,List.length_append];omega)
  have hKm:K.length < m:=by rw [← hLm,hKT,List.length_append];have:=List.length_pos_iff.2 hT;omega
  have HTK:Hid (L.take K.length=K):=Lib.hid (by rw [hKT,List.take_left' rfl])
  have HIX:Hid (r.index≤1099511627776):=Lib.hid (by
   rw [hri]
   have h:=sealI.iff (optOk.iff (refuse_ok hr).1).2
   omega)
  have hK5:K.length≤100000:=by omega
  obtain ⟨ek,hek⟩:∃ k:Int,k=endK false:=⟨_,rfl⟩
  have m2:(ek == 73)=true:=by rw [hek];rfl
  have HEK:=Lib.hid hek.symm
  obtain ⟨kn,hkn⟩:∃ z,z=K.length:=⟨_,rfl⟩
  rw [← hkn] at HTK hKm hK5 HKL
  have HKN:=Lib.hid hkn.symm
  have m3:decide ((kn:Int) < (m:Int))=true:=decide_eq_true (by omega)
  have i0:(0:Int)≤(kn:Int):=by omega
  have i1:(kn:Int)≤(lc:Int):=by omega
  have i2:kn≤lc:=by omega
  clear hs hE ht ho hX hne hz hver hall hrc hri hKT hT hr hl hn hek hkn
  go_enter Tryz.func52,Tryz.ntmps52
  go_upto_region 5 with (first
   | (go_at_call 17;go_must (refine (open_yes7 HO.out HS0.out (HTB.out _ (Below.refl _ _))).mono ?_);rintro e x1 ⟨q,hq1,hq2,rfl,hz⟩;have HX1:=Lib.hid hz;have HQ:=Lib.hid (And.intro hq1 hq2);clear hq1 hq2 hz)
   | (go_at_call 20;go_must (refine (num7_any 0 _).mono ?_);rintro e x2 ⟨rfl,rfl⟩)
   | (go_at_call 30;go_must (refine (verify_any q HQ.out.2 _ (RunAt.of HQ.out.2.ok HX1.out (List.Sublist.refl _)) (HTB.out _ HX1.out.up) (by rw [HQ.out.1];exact HIX.out)).mono ?_);rw [HQ.out.1,HV.out];rintro e x3 ⟨rfl,hb⟩;have HX3:=Lib.hid (HX1.out.later hb);clear hb HX1))
  go_upto_region 6 with (go_at_call 31;go_must (refine (all_goes q HQ.out.2 w _ q.obs (List.Sublist.refl _) HX3.out (HTB.out _ (Below.refl _ _)) K false (by rw [HQ.out.1];exact HA.out) (by rw [HQ.out.1,HKN.out];exact HKL.out) (by rw [HKN.out];omega)).mono ?_);intro e x4 hp;obtain ⟨cg,c',GA,gc,rs,j1,j2,j3,j4,rfl,hz⟩:=hp;rw [HEK.out];obtain rfl:kn=rs.length:=(by rw [← HKN.out,← j4,List.length_map]);have HZ:Hid (OW w (entsO GA rs.length gc rs ++ (c'.obs q ++ q.obs)) x4):=Lib.hid hz;have HRS:=Lib.hid j4;clear hz j1 j2 j3 j4)
  have HGE:Hid (Ens x4 GA rs.length K):=Lib.hid (by
   have h:=rowE_ens HZ.out
   rwa [HRS.out] at h)
  have HLT:Hid (Ens x4 LA rs.length K):=Lib.hid (by
   have h:=(HLE.out _ HZ.out.up).take (m:=rs.length) (by omega)
   rwa [HTK.out] at h)
  go_wp2_with (first
   | (go_at_call 20;go_must (refine (num7_any 73 _).mono ?_);rintro e x5 ⟨rfl,rfl⟩)
   | (go_at_call 32;go_must (refine (sameAll_any K K GA rs.length gc LA rs.length lc _ HGE.out HLT.out (by omega)).mono ?_);rintro e x6 ⟨bo,rfl,hbo,hb⟩;obtain rfl:=hbo.2 rfl;have HX6:=Lib.hid (HZ.out.later hb);clear hb hbo))
  go_ret
  exact ⟨rfl,HX6.out.up⟩
end Go.Proofs.YtfdbcfaeiglbeaaGreatDoor
