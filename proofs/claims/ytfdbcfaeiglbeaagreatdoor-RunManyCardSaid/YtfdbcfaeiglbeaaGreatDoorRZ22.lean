/-
 BlockC4.
-/
import Derived.Test.YtfdbcfaeiglbeaaGreatDoorRZ20
namespace Go.Proofs.YtfdbcfaeiglbeaaGreatDoor
open Go.RowKit
def Bk5 (R:Nat) (L:List Ent) (g:Nat) (os:List Ob):Prop:=∃ lv kv zs,os=blkO R g lv kv zs∧entsZ zs=L∧ZOk zs
def OpenP (b:List UInt8) (w:World) (e:Ending) (z:World):Prop :=
 (∃ L g os,(openE b).1=some L∧e = .returned (.tuple #[.pointer (some ⟨g,0,none⟩),.int .i64 0])∧Bk5 (resB b) L g os∧OW w os z) ∨
 ((openE b).1=none∧e = .returned (.tuple #[.pointer none,.int .i64 (openE b).2])∧Below w.heap.size w z)
theorem open_no {b:List UInt8} {w z:World} {k:Int} (h:openE b=(none,k)) (hb:Below w.heap.size w z):OpenP b w (.returned (.tuple #[.pointer none,.int .i64 k])) z :=
 .inr ⟨by rw [h],by rw [h],hb⟩
theorem blk_ens {w x:World} {R g:Nat} {lv kv:Value} {zs:List ZR} {rest:List Ob} (h:OW w (blkO R g lv kv zs ++ rest) x):∃ A c,lv = .slice A zs.length c∧Ens x A zs.length (entsZ zs):=by
 obtain ⟨A,c,rfl,_⟩:=own_slice (h.row (i:=1) rfl)
 refine ⟨A,c,rfl,zs.map (·.1),by unfold entsZ;rw [List.map_map];rfl,?_,fun r hr=>?_⟩
 ·have h1:=Reads.own (h.row (i:=1) rfl)
  have e:zs.flatMap (·.1.cells)=(zs.map (·.1)).flatMap ER.cells:=by rw [List.flatMap_map]
  rw [e] at h1
  exact h1
 ·obtain ⟨z,hz,rfl⟩:=List.mem_map.1 hr
  refine ⟨h.slm (T:=5) (List.mem_append_left _ (rowZ_mem hz (by simp [rowsZ]))) rfl,h.slm (T:=5) (List.mem_append_left _ (rowZ_mem hz (by simp [rowsZ]))) rfl,h.slm (T:=5) (List.mem_append_left _ (rowZ_mem hz (by simp [rowsZ]))) rfl⟩
theorem openR_zero {b:List UInt8} (h:resB b=0) (r:Option (List Ent×List UInt8×Nat)):openR b r=(none,51):=by
 cases r with
 | none=>rfl
 | some r =>
  unfold openR
  simp only []
  rw [if_neg]
  rw [h]
  intro e
  unfold buildE5 at e
  rw [if_pos (.inl (by decide))] at e
  injection e with _ e
  cases e
theorem ReadP.form {w z:World} {R g N:Nat} {rest:List Ob} {b:List UInt8} {e:Ending} (h:ReadP w R g rest b N e z):∃ lv kv zs bo,e = .returned (.bool bo)∧OW w (blkO R g lv kv zs ++ rest) z∧ZOk zs∧(bo=true→∃ key a,rdF b N=some (entsZ zs,key,a))∧(bo=false→rdF b N=none):=by
 obtain ⟨lv,kv,zs,h1,h2,⟨key,a,h3,h4⟩ | ⟨h3,h4⟩⟩:=h
 ·exact ⟨lv,kv,zs,true,h4,h1,h2,(fun _=>⟨key,a,h3⟩),fun h=>by cases h⟩
 ·exact ⟨lv,kv,zs,false,h4,h1,h2,(fun h=>by cases h),fun _=>h3⟩
set_option maxRecDepth 100000 in
set_option maxHeartbeats 4000000 in
theorem open_any (b:List UInt8) (A:Option Addr) (n c:Nat) (w:World) (hs:Sl w A n c b) (ht:TabAt 0 w) :
  Calls Tryz.prog 149 #[.slice A n c] w (OpenP b w):=by
 have HL:=Lib.hid hs.rb.len
 by_cases h1:131072 < n
 case pos =>
  have HP:Hid (openE b=(none,2)):=Lib.hid (by unfold openE;rw [if_pos (by rw [HL.out];exact h1)])
  have hd:decide ((n:Int) > 131072)=true:=decide_eq_true (by omega)
  clear hs ht
  go_enter Tryz.func149,Tryz.ntmps149
  go_wp2_with fail
  go_ret2
  exact open_no HP.out (Below.refl _ _)
 have hd1:decide ((n:Int) > 131072)=false:=decide_eq_false (by omega)
 by_cases h2:n < 9
 case pos =>
  have HP:Hid (openE b=(none,51)):=Lib.hid (by unfold openE;rw [if_neg (by rw [HL.out];exact h1),if_pos (by rw [HL.out];exact h2)])
  have hd:decide ((n:Int) < 9)=true:=decide_eq_true (by omega)
  clear hs ht
  go_enter Tryz.func149,Tryz.ntmps149
  go_wp2_with fail
  go_ret2
  exact open_no HP.out (Below.refl _ _)
 have hd2:decide ((n:Int) < 9)=false:=decide_eq_false (by omega)
 have HSM:Hid (∀ z,Below w.heap.size w z→Calls Tryz.prog 192 #[.slice A n c] z fun e w'=>e = .returned (.bool (sumOkB b))∧Below z.heap.size z w'):=Lib.hid fun z hz=>by
  unfold sumOkB
  rw [HL.out]
  exact summed_any b A n c z (hs.later hz) (by omega) (ht.later hz)
 cases h3:sumOkB b with
 | false =>
  have HP:Hid (openE b=(none,52)):=Lib.hid (by unfold openE;rw [if_neg (by rw [HL.out];exact h1),if_neg (by rw [HL.out];exact h2),if_pos h3])
  rw [h3] at HSM
  clear hs ht h3
  go_enter Tryz.func149,Tryz.ntmps149
  go_wp2_with (go_at_call 192;go_must (refine (HSM.out _ (Below.refl _ _)).mono ?_);rintro e z1 ⟨rfl,hb⟩;have HB:=Lib.hid hb;clear hb)
  go_ret2
  exact open_no HP.out HB.out
 | true =>
 rw [h3] at HSM
 obtain ⟨k,rfl⟩:∃ k,n=k + 9:=⟨n - 9,by omega⟩
 have HPE:Hid (openE b=openR b (rdF (b.take k) (cntB b))):=Lib.hid (by
  unfold openE
  rw [if_neg (by rw [HL.out];exact h1),if_neg (by rw [HL.out];exact h2),if_neg (by rw [h3];decide),HL.out];rfl)
 obtain ⟨N,hN⟩:∃ z,z=cntB b:=⟨_,rfl⟩
 obtain ⟨r,hr⟩:∃ z,z=resB b:=⟨_,rfl⟩
 have hN32:N < 4294967296:=by rw [hN];exact numF_lt _ _
 have hr8:r≤255:=by rw [hr];unfold resB;have:=(b[b.length - 5]?.getD 0).toNat_lt;omega
 obtain ⟨b1,o1,_,rfl,hbl,_,_⟩:=hs.rb.at_ (show 0 < k + 9 by omega)
 have HSL:Hid (∀ z,Below w.heap.size w z→Sl z (some ⟨b1,o1,none⟩) (k + 9) c b):=Lib.hid fun z hz=>hs.later hz
 have HTK:Hid (∀ z,Below w.heap.size w z→Sl z (some ⟨b1,o1,none⟩) k c (b.take k)):=Lib.hid fun z hz=>(hs.later hz).take (by omega)
 have HTB:Hid (∀ z,Below w.heap.size w z→TabAt 0 z):=Lib.hid fun z hz=>ht.later hz
 have HCE:Hid (∀ i,i < 9→∀ z,Below w.heap.size w z→z.cell? ⟨b1,o1 + (k + i),none⟩=some (.int .u8 ((b[k + i]?.getD 0).toNat:Int))):=Lib.hid fun i hi z hz =>
  (hs.later hz).rb.cell (k:=k + i) (by rw [List.getElem?_eq_getElem (by have:=HL.out;omega)];rfl)
 have HM:Hid (bits .or .i64 (bits .or .i64 (bits .or .i64 (wrap64 (wrap64 ((b[k]?.getD 0).toNat:Int) * 16777216)) (wrap64 (wrap64 ((b[k + 1]?.getD 0).toNat:Int) * 65536))) (wrap64 (wrap64 ((b[k + 2]?.getD 0).toNat:Int) * 256))) (wrap64 ((b[k + 3]?.getD 0).toNat:Int))=(N:Int)):=Lib.hid (by
  rw [numB_walk,hN];unfold cntB;rw [HL.out];rfl)
 have HR4:Hid (((b[k + 4]?.getD 0).toNat:Int)=(r:Int)):=Lib.hid (by rw [hr];unfold resB;rw [HL.out];rfl)
 have hcap:=hs.cap
 have hlim:=hs.lim
 have c4:=HCE.out 4 (by omega) w (Below.refl _ _)
 rw [HR4.out] at c4
 have HN:=Lib.hid hN
 have HR:=Lib.hid hr
 have hk1:k≤131063:=by omega
 clear hs ht h3 hN hr hd1 hd2 h1 h2
 have hd1:decide ((k:Int) + 9 > 131072)=false:=decide_eq_false (by omega)
 have hd2:decide ((k:Int) + 9 < 9)=false:=decide_eq_false (by omega)
 go_enter Tryz.func149,Tryz.ntmps149
 go_upto_region 7 with (first
  | (go_at_call 192;go_must (refine (HSM.out _ (Below.refl _ _)).mono ?_);rintro e z1 ⟨rfl,hb⟩;have HB:=Lib.hid hb;have HX0:=Lib.hid ((OW.nil w).later hb);have c4:=HCE.out 4 (by omega) z1 HB.out;rw [HR4.out] at c4;clear hb))
 have i1:(0:Int)≤(k:Int) + 4:=by omega
 have i2:((k:Int) + 4).toNat=k + 4:=by omega
 have i3:(0:Int)≤(k:Int):=by omega
 have i4:(k:Int)≤(c:Int):=by omega
 have i5:(k:Int)≤(k:Int) + 9:=by omega
 go_wp2_with (first
  | (refine wl_box rfl (.tmp 28) rfl [.int .i64 (r:Int),.slice none 0 0,.slice none 0 0] rfl HX0.out ?_;intro g x1 hz _;have HX:=Lib.hid ((hz.nilRow 60 7).nilRow 34 1);clear hz HX0))
 have c0:=HCE.out 0 (by omega) x1 HX.out.up
 have c1:=HCE.out 1 (by omega) x1 HX.out.up
 have c2:=HCE.out 2 (by omega) x1 HX.out.up
 have c3:=HCE.out 3 (by omega) x1 HX.out.up
 rw [Nat.add_zero] at c0
 rw [← Nat.add_assoc] at c1 c2 c3
 clear c4 i1 i2 i5
 go_quiet (fail)
 rw [HM.out]
 have HXB:Hid (OW w (blkO r g (.slice none 0 0) (.slice none 0 0) [] ++ []) (x1.drewN nq)):=Lib.hid (by
  have h:=HX.out.later (below_drewN (n:=nq) (Below.refl _ _))
  exact h)
 clear c0 c1 c2 c3 HX HM HCE
 generalize x1.drewN nq=x2 at *
 by_cases hr0:r=0
 case pos =>
  have HP:Hid (openE b=(none,51)):=Lib.hid (by rw [HPE.out];exact openR_zero (by rw [← HR.out];exact hr0) _)
  have hd0:((r:Int) == 0)=true:=by rw [hr0];rfl
  clear hr0
  go_wp2_with (refine wpList_load_cell rfl 3 (.tmp 59) rfl rfl (show _=some (Value.int .i64 (r:Int)) from HXB.out.cell (i:=0) (j:=0) rfl rfl) Tryz.isAgg3 ?_)
  go_ret2
  exact open_no HP.out HXB.out.up
 have hd0:((r:Int) == 0)=false:=beq_eq_false_iff_ne.2 (by omega)
 clear hr0
 go_upto_if 72 with (first
  | (refine wpList_load_cell rfl 3 (.tmp 59) rfl rfl (show _=some (Value.int .i64 (r:Int)) from HXB.out.cell (i:=0) (j:=0) rfl rfl) Tryz.isAgg3 ?_)
  | (go_at_call 193;go_must (refine (read_any (R:=r) (g:=g) (rest:=[]) HXB.out (b.take k) _ k c N (by omega) hN32 HTK.out).mono ?_);intro e z3 hp;obtain ⟨lv,kv,zs,bo,rfl,hx,hz,ht,hf⟩:=hp.form;have HX3:=Lib.hid hx;have HZ:=Lib.hid hz;have HBT:=Lib.hid ht;have HBF:=Lib.hid hf;clear hp hx hz ht hf HXB))
 cases bo with
 | false =>
  have HP:Hid (openE b=(none,51)):=Lib.hid (by rw [HPE.out,← HN.out,HBF.out rfl];rfl)
  go_wp2_with fail
  go_ret2
  exact open_no HP.out HX3.out.up
 | true =>
 obtain ⟨LA,lc,rfl,_⟩:=blk_ens HX3.out
 obtain ⟨L,hL⟩:∃ z,z=entsZ zs:=⟨_,rfl⟩
 obtain ⟨m,hm⟩:∃ z,z=zs.length:=⟨_,rfl⟩
 obtain ⟨B,be,hB⟩:∃ B be,buildE5 (r:Int) L=(B,be):=⟨_,_,rfl⟩
 have HPQ:Hid (openE b=if (B,be)=(b,0) then (some L,0) else (none,51)):=Lib.hid (by
  obtain ⟨key,a,h⟩:=HBT.out rfl
  rw [HPE.out,← HN.out,h,← hB,hL,HR.out];rfl)
 have HEN:Hid (∀ z,OW w (blkO r g (.slice LA m lc) kv zs ++ []) z→Ens z LA m L):=Lib.hid fun z hz=>by
  rw [hm] at hz
  obtain ⟨A',c',e',h⟩:=blk_ens hz
  injection e' with e1 e2 e3
  rw [hm,hL,e1];exact h
 have HX4:Hid (OW w (blkO r g (.slice LA m lc) kv zs ++ []) z3):=Lib.hid (by rw [hm];exact HX3.out)
 obtain ⟨bn,hbn⟩:∃ z,z=B.length:=⟨_,rfl⟩
 have HBN:=Lib.hid hbn.symm
 have HB:=Lib.hid hB
 have hmb:m≤4294967296:=by
  obtain ⟨key,a,h⟩:=HBT.out rfl
  have h1:=rdF_len h
  unfold entsZ at h1
  rw [List.length_map] at h1
  omega
 have HL3:=Lib.hid hL
 have HM3:=Lib.hid hm
 clear hB hL hm hbn HX3
 go_wp2_with fail
 refine lt_start [] (by kernel_rfl) ?_
 intro xd hd
 refine ⟨fun z=>OW w (blkO r g (.slice LA m lc) kv zs ++ []) z,?_⟩
 have HS:=Lib.hid (HX4.out.later hd)
 refine lp2 0 rfl (fun _=>HS.out) ?_
 simp only [Act.put,ls]
 refine lp2 1 rfl (fun _=>HS.out) ?_
 simp only [Act.put,ls]
 refine lp2 2 rfl (fun _=>HS.out) ?_
 simp only [Act.put,ls]
 refine lq 3 [8,9,10,11,12,13] rfl (yi_cell rfl rfl rfl (fun w hS=>(show _=some (Value.int .i64 (r:Int)) from OW.cell hS (i:=0) (j:=0) rfl rfl)) Tryz.isAgg3) HS.out ?_
 simp only [Act.put,ls]
 refine lp2 4 rfl (fun _=>HS.out) ?_
 simp only [Act.put,ls]
 refine lp2 5 rfl (fun _=>HS.out) ?_
 simp only [Act.put,ls]
 refine lp2 6 rfl (fun _=>HS.out) ?_
 simp only [Act.put,ls]
 refine lq 7 [8,9,10,11,12,13] rfl (yi_cell rfl rfl rfl (fun w hS=>OW.cell hS (i:=0) (j:=1) rfl rfl) Tryz.isAgg24) HS.out ?_
 simp only [Act.put,ls]
 refine lt_call 8 rfl (by kernel_rfl) rfl rfl ⟨_,Tryz.func194,by decide,by kernel_rfl⟩ [.int .i64 (r:Int),.slice LA m lc] rfl ?_
 refine (build_any (r:Int) L LA m lc _ (HEN.out _ HS.out) (by omega) (HTB.out _ HS.out.up)).mono ?_
 rw [HB.out]
 intro e z5 hp
 obtain ⟨A5,c5,rfl,ho,_,hb⟩:=hp.at_ HBN.out rfl
 have HO5:=Lib.hid ho
 replace HS:=Lib.hid (HS.out.later hb)
 have HD5:=Lib.hid (Below.refl z5.heap.size z5)
 clear hp ho hb
 refine ⟨_,rfl,fun _=>HS.out,?_⟩
 simp only [Act.put,ls]
 refine lp2 9 rfl (fun _=>HS.out) ?_
 simp only [Act.put,ls]
 refine lp2 10 rfl (fun _=>HS.out) ?_
 simp only [Act.put,ls]
 refine lp2 11 rfl (fun _=>HS.out) ?_
 simp only [Act.put,ls]
 refine lp2 12 rfl (fun _=>HS.out) ?_
 simp only [Act.put,ls]
 refine lp2 13 rfl (fun _=>HS.out) ?_
 simp only [Act.put,ls]
 refine lt_done (by kernel_rfl) ?_
 have HS5:=HS
 clear HS
 have HX6:=Lib.hid HS5.out
 clear HS5
 have HB6:=HX6.out.up
 by_cases hbe:be=0
 case neg =>
  have hd9:(be != 0)=true:=bne_iff_ne.2 hbe
  have HP:Hid (openE b=(none,51)):=Lib.hid (by rw [HPQ.out,if_neg];intro h;injection h with _ h;exact hbe h)
  clear hbe
  go_wp2_with fail
  go_ret2
  exact open_no HP.out HX6.out.up
 have hd9:(be != 0)=false:=by rw [hbe];rfl
 have HBE:=Lib.hid hbe
 clear hbe
 cases hq:B == b with
 | false =>
  have HP:Hid (openE b=(none,51)):=Lib.hid (by rw [HPQ.out,if_neg];intro h;injection h with h _;rw [h] at hq;simp at hq)
  have HQ:=Lib.hid hq
  clear hq
  go_wp2_with (go_at_call 87;go_must (refine (equal_any B b _ _ bn _ (k + 9) _ _ (HO5.out.later HD5.out).rb (HSL.out _ HX6.out.up).rb).mono ?_);rw [HQ.out];rintro e z6 ⟨rfl,rfl⟩)
  go_ret2
  exact open_no HP.out HX6.out.up
 | true =>
  have HP:Hid (openE b=(some L,0)):=Lib.hid (by rw [HPQ.out,if_pos];rw [beq_iff_eq] at hq;rw [hq,HBE.out])
  have HQ:=Lib.hid hq
  clear hq
  go_wp2_with (go_at_call 87;go_must (refine (equal_any B b _ _ bn _ (k + 9) _ _ (HO5.out.later HD5.out).rb (HSL.out _ HX6.out.up).rb).mono ?_);rw [HQ.out];rintro e z6 ⟨rfl,rfl⟩)
  go_ret2
  refine .inl ⟨L,g,blkO r g (.slice LA m lc) kv zs,by rw [HP.out],rfl,?_,?_⟩
  ·rw [← HR.out];exact ⟨_,_,_,rfl,HL3.out.symm,HZ.out⟩
  ·have h:=HX6.out;rw [List.append_nil] at h;exact h
end Go.Proofs.YtfdbcfaeiglbeaaGreatDoor
