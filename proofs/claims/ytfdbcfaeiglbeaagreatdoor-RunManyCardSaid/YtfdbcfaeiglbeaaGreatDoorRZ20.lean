/-
 BlockC3.
-/
import Derived.Test.YtfdbcfaeiglbeaaGreatDoorRZ19
namespace Go.Proofs.YtfdbcfaeiglbeaaGreatDoor
open Go.RowKit
theorem readBy_le5 (l:List UInt8) (a most:Int):(readBy l a most).1.length≤l.length:=by
 unfold readBy
 split
 ·exact Nat.zero_le _
 ·split
  ·exact Nat.zero_le _
  ·split
   ·exact Nat.zero_le _
   ·split
    ·exact Nat.zero_le _
    ·unfold cutS;simp only [List.length_take,List.length_drop];omega
def ReadP (w:World) (R g:Nat) (rest:List Ob) (b:List UInt8) (N:Nat) (e:Ending) (z:World):Prop :=
 ∃ lv kv zs,OW w (blkO R g lv kv zs ++ rest) z∧ZOk zs∧((∃ key a,rdF b N=some (entsZ zs,key,a)∧e = .returned (.bool true))∨(rdF b N=none∧e = .returned (.bool false)))
theorem entsZ_snoc (zs:List ZR) (z:ZR):entsZ (zs ++ [z])=entsZ zs ++ [z.1.e]:=by unfold entsZ;rw [List.map_append];rfl
theorem Tryz.entsS:SliceOf Tryz.prog 24 60 7 104:=SliceOf.mk' (z := .agg #[.slice none 0 0,.int .i64 0,.slice none 0 0,.int .i64 0,.int .i64 0,.int .i64 0,.slice none 0 0]) Tryz.underlying24 (by kernel_rfl) rfl (by decide)
theorem Tryz.keyS5:SliceOf Tryz.prog 88 34 1 24:=SliceOf.mk' (z := .slice none 0 0) Tryz.underlying88 (by kernel_rfl) rfl (by decide)
def KeyAt (zs:List ZR) (A:Option Addr) (c:Nat) (key:List UInt8):Prop:=(A=none∧c=0∧key=[])∨∃ z,z ∈ zs∧z.2=(A,c,key)
theorem KeyAt.sl {zs:List ZR} {A:Option Addr} {c kl:Nat} {key:List UInt8} (h:KeyAt zs A c key) (hk:key.length=kl) {w x:World} {os:List Ob} (hx:OW w os x) (hm:∀ z,z ∈ zs→bytO 5 z.2 ∈ os):Sl x A kl c key:=by
 rcases h with ⟨rfl,rfl,rfl⟩ | ⟨z,hz,e⟩
 ·subst hk;exact Sl.none _
 ·exact hx.slm (by rw [← e];exact hm z hz) hk
theorem KeyAt.len {zs:List ZR} {A:Option Addr} {c:Nat} {key:List UInt8} (h:KeyAt zs A c key) (hz:ZOk zs):key.length≤1048:=by
 rcases h with ⟨_,_,rfl⟩ | ⟨z,hm,e⟩
 ·exact Nat.zero_le _
 ·obtain ⟨h1,h2⟩:=hz z hm
  rw [e] at h1
  have h1:key=keyE z.1.e:=h1
  rw [h1];exact h2
set_option maxRecDepth 100000 in
set_option maxHeartbeats 4000000 in
theorem read_any {w x:World} {R g:Nat} {rest:List Ob} (h:OW w (blkO R g (.slice none 0 0) (.slice none 0 0) [] ++ rest) x) (b:List UInt8) (A:Option Addr) (n c N:Nat) (hn:n≤1099511000000) (hN:N < 4294967296) (HS0:∀ z,Below w.heap.size w z→Sl z A n c b) :
  Calls Tryz.prog 193 #[.pointer (some ⟨g,0,none⟩),.slice A n c,.int .i64 N] x (ReadP w R g rest b N):=by
 have HX:=Lib.hid h
 have HS:=Lib.hid HS0
 have HL:Hid (b.length=n):=Lib.hid (HS0 x h.up).rb.len
 clear h HS0
 go_enter Tryz.func193,Tryz.ntmps193
 go_wp2_with (first
  | (refine wl_alloc rfl rfl [.bool false] (.inr ⟨.bool false,(by kernel_rfl),rfl⟩) HX.out ?_;intro gk z1 hz _;replace HX:=Lib.hid (hz.perm List.perm_append_comm);clear hz)
  | (refine wl_put1 rfl (.tmp 9) _ rfl HX.out 0 rfl 0 rfl (by decide) (.bool true) rfl (by kernel_rfl) rfl ?_;intro z2 hz _;have HX2:Hid (OW w (boxO gk [.bool true]::(blkO R g (.slice none 0 0) (.slice none 0 0) [] ++ rest)) z2):=Lib.hid hz;clear hz HX))
 go_loopw [7,8,19] (fun av kv i wr=>∃ (k a:Nat) (zs:List ZR) (lv sv:Value) (KA:Option Addr) (kl kc:Nat) (key:List UInt8),k≤N∧i = .int .i64 k∧av = .int .i64 a∧kv = .slice KA kl kc∧kl≤1048∧Hid (key.length=kl)∧Hid (KeyAt zs KA kc key)∧Hid (ZOk zs∧zs.length=k)∧Hid (rdF b k=some (entsZ zs,key,a))∧Hid (OW w (boxO gk [.bool true]::(blkO R g lv sv zs ++ rest)) wr)) (fun _ _ i _=>N - (intOf i).toNat)
 case atStart=>exact ⟨0,0,[],_,_,none,0,0,[],Nat.zero_le _,rfl,rfl,rfl,Nat.zero_le _,Lib.hid rfl,Lib.hid (.inl ⟨rfl,rfl,rfl⟩),Lib.hid ⟨(fun z h=>by cases h),rfl⟩,Lib.hid rfl,HX2⟩
 case round =>
  clear HX2
  obtain ⟨k,a,zs,lv,sv,KA,kl,kc,key,hk,rfl,rfl,rfl,hkl,HKL,HKA,HZ,HRD,HX⟩:=hrel
  have hfail:Hid (∀ z os',OW w os' z→(blkO R g lv sv zs ++ rest).Sublist os'→rd1 b a key=none→k < N→ReadP w R g rest b N (.returned (.bool false)) z):=Lib.hid fun z os' h1 h2 h3 h4=>⟨lv,sv,zs,h1.sub h2,HZ.out.1,.inr ⟨rdF_stop HRD.out h3 h4,rfl⟩⟩
  by_cases hlt:k < N
  case neg =>
   have hd:decide ((k:Int) < (N:Int))=false:=decide_eq_false (by omega)
   have hkN:k=N:=by omega
   have HKN:=Lib.hid hkN
   clear hkN
   go_wp2_with fail
   go_ret
   exact ⟨lv,sv,zs,HX.out.sub ((List.Sublist.refl _).cons _),HZ.out.1,.inl ⟨key,a,by rw [← HKN.out];exact HRD.out,rfl⟩⟩
  have hd:decide ((k:Int) < (N:Int))=true:=decide_eq_true (by omega)
  obtain ⟨u,p1,e1,hR1⟩:∃ u p1 e1,readU b (a:Nat)=(u,p1,e1):=⟨_,_,_,rfl⟩
  have R1:=Lib.hid hR1
  clear hR1
  by_cases he1:e1=0
  case neg =>
   have HD1:Hid (((e1:Int) == 0)=false):=Lib.hid (beq_eq_false_iff_ne.2 (by omega))
   have HE:=Lib.hid he1
   clear he1
   go_wp2_with (first
    | (go_at_call 137;go_must (refine (ru_any b A n c a _ (by omega) (HS.out _ HX.out.up).rb).mono ?_);rw [R1.out];rintro r w1 ⟨rfl,rfl⟩)
    | (go_at_call 215;go_must (refine (need_any (e1:Int) 0 HX.out rfl).mono ?_);rw [HD1.out];rintro r x1 ⟨rfl,hz⟩;have HX1:Hid (OW w (boxO gk [.bool false]::(blkO R g lv sv zs ++ rest)) x1):=Lib.hid hz;clear hz))
   go_ret
   exact hfail.out _ _ HX1.out ((List.Sublist.refl _).cons _) (rd1_a R1.out HE.out) hlt
  have HD1:Hid (((e1:Int) == 0)=true):=Lib.hid (by rw [he1];rfl)
  have HE1:=Lib.hid he1
  clear he1
  have hu64:u < 18446744073709551616:=by have h1:=readU_val b (a:Nat);rw [R1.out] at h1;exact h1
  by_cases hu:kl < u
  case pos =>
   have hd2:decide ((u:Int) > (kl:Int))=true:=decide_eq_true (by omega)
   go_wp2_with (first
    | (go_at_call 137;go_must (refine (ru_any b A n c a _ (by omega) (HS.out _ HX.out.up).rb).mono ?_);rw [R1.out];rintro r w1 ⟨rfl,rfl⟩)
    | (go_at_call 215;go_must (refine (need_any (e1:Int) 0 HX.out rfl).mono ?_);rw [HD1.out];rintro r x1 ⟨rfl,hz⟩;have HX1:Hid (OW w (boxO gk [.bool true]::(blkO R g lv sv zs ++ rest)) x1):=Lib.hid hz;clear hz))
   go_ret
   exact hfail.out _ _ HX1.out ((List.Sublist.refl _).cons _) (rd1_b R1.out (by rw [HKL.out];exact hu)) hlt
  have hd2:decide ((u:Int) > (kl:Int))=false:=decide_eq_false (by omega)
  obtain ⟨k2,p2,e2,hR2⟩:∃ k2 p2 e2,readBy b (p1:Nat) (n:Nat)=(k2,p2,e2):=⟨_,_,_,rfl⟩
  have R2:=Lib.hid hR2
  obtain ⟨k2n,hk2n⟩:∃ z,z=k2.length:=⟨_,rfl⟩
  have HK2:=Lib.hid hk2n.symm
  have R1':Hid (readU b (a:Nat)=(u,p1,0)):=Lib.hid (by rw [← HE1.out];exact R1.out)
  have R2L:Hid (readBy b (p1:Nat) (b.length:Nat)=(k2,p2,e2)):=Lib.hid (by rw [HL.out];exact R2.out)
  have hk2b:k2n≤1099511000000:=by
   have h1:=readBy_le5 b (p1:Int) (n:Int)
   rw [R2.out] at h1
   have h1:k2.length≤b.length:=h1
   have:=HL.out
   omega
  obtain ⟨bo2,hbo2⟩:∃ z:Bool,((e2:Int) == 0)=z:=⟨_,rfl⟩
  have HD2:=Lib.hid hbo2
  clear hR2 hk2n hbo2
  have tk1:True:=trivial
  have tk2:True:=trivial
  go_upto_if 51 with (first
   | (go_at_call 137;go_must (refine (ru_any b A n c a _ (by omega) (HS.out _ HX.out.up).rb).mono ?_);rw [R1.out];rintro r w1 ⟨rfl,rfl⟩)
   | (go_at_call 215;have _t:=tk1;go_must (refine (need_any (e1:Int) 0 HX.out rfl).mono ?_);rw [HD1.out];rintro r x1 ⟨rfl,hz⟩;have HX1:Hid (OW w (boxO gk [.bool true]::(blkO R g lv sv zs ++ rest)) x1):=Lib.hid hz;clear hz tk1)
   | (go_at_call 138;go_must (refine (rby_any b A n c p1 n _ (HS.out _ HX1.out.up) (by omega) (by omega)).mono ?_);rw [R2.out];rintro r x2 hp;obtain ⟨A3,c3,rfl,hs3,ho,hb⟩:=hp.at_ HK2.out rfl rfl;have HX2:=Lib.hid (HX1.out.addF9 (OW.byt1 hb ho));clear hp ho hb hs3 HX1)
   | (go_at_call 215;have _t:=tk2;go_must (refine (need_any (e2:Int) 1 HX2.out rfl).mono ?_);rw [HD2.out];rintro r x3 ⟨rfl,hz⟩;have HX3:Hid (OW w (bytO 5 (A3,c3,k2)::boxO gk [.bool bo2]::(blkO R g lv sv zs ++ rest)) x3):=Lib.hid hz;clear hz tk2 HX2))
  clear HX
  cases bo2 with
  | false =>
   have hE2:e2 ≠ 0:=fun h=>by have h1:=HD2.out;rw [h] at h1;cases h1
   have HE2:=Lib.hid hE2
   clear hE2
   go_wp2_with fail
   go_ret
   exact hfail.out _ _ HX3.out (((List.Sublist.refl _).cons _).cons _) (rd1_c R1'.out (by rw [HKL.out];omega) R2L.out HE2.out) hlt
  | true =>
  have HE2:Hid (e2=0):=Lib.hid (by have h1:=HD2.out;rw [beq_iff_eq] at h1;omega)
  obtain ⟨vv,p3,e3,hR3⟩:∃ vv p3 e3,readBy b (p2:Nat) 4096=(vv,p3,e3):=⟨_,_,_,rfl⟩
  have R3:=Lib.hid hR3
  obtain ⟨vn,hvn⟩:∃ z,z=vv.length:=⟨_,rfl⟩
  have HVN:=Lib.hid hvn.symm
  obtain ⟨bo3,hbo3⟩:∃ z:Bool,((e3:Int) == 0)=z:=⟨_,rfl⟩
  have HD3:=Lib.hid hbo3
  clear hR3 hvn hbo3
  have R2':Hid (readBy b (p1:Nat) (b.length:Nat)=(k2,p2,0)):=Lib.hid (by rw [R2L.out,HE2.out])
  have tk2:True:=trivial
  go_upto_if 62 with (first
   | (go_at_call 138;go_must (refine (rby_any b A n c p2 4096 _ (HS.out _ HX3.out.up) (by omega) (by omega)).mono ?_);rw [R3.out];rintro r x4 hp;obtain ⟨A4,c4,rfl,hs4,ho,hb⟩:=hp.at_ HVN.out rfl rfl;have HX4:=Lib.hid (HX3.out.addF9 (OW.byt1 hb ho));clear hp ho hb hs4)
   | (go_at_call 215;have _t:=tk2;go_must (refine (need_any (e3:Int) 2 HX4.out rfl).mono ?_);rw [HD3.out];rintro r x5 ⟨rfl,hz⟩;have HX5:Hid (OW w (bytO 5 (A4,c4,vv)::bytO 5 (A3,c3,k2)::boxO gk [.bool bo3]::(blkO R g lv sv zs ++ rest)) x5):=Lib.hid hz;clear hz tk2))
  clear HX3
  cases bo3 with
  | false =>
   have hE3:e3 ≠ 0:=fun h=>by have h1:=HD3.out;rw [h] at h1;cases h1
   have HE3:=Lib.hid hE3
   clear hE3
   go_wp2_with fail
   go_ret
   exact hfail.out _ _ HX5.out ((((List.Sublist.refl _).cons _).cons _).cons _) (rd1_d R1'.out (by rw [HKL.out];omega) R2'.out R3.out HE3.out) hlt
  | true =>
  have HE3:Hid (e3=0):=Lib.hid (by have h1:=HD3.out;rw [beq_iff_eq] at h1;omega)
  have R3':Hid (readBy b (p2:Nat) 4096=(vv,p3,0)):=Lib.hid (by rw [R3.out,HE3.out])
  obtain ⟨K,hK⟩:∃ z,z=key.take u ++ k2:=⟨_,rfl⟩
  obtain ⟨kn,hkn⟩:∃ z,z=K.length:=⟨_,rfl⟩
  obtain ⟨pe,pf,hP⟩:∃ pe pf,ParseKeyE K=(pe,pf):=⟨_,_,rfl⟩
  obtain ⟨bo4,hbo4⟩:∃ z:Bool,(pf == 0)=z:=⟨_,rfl⟩
  have HK:=Lib.hid hK
  have HKN:=Lib.hid hkn.symm
  have HP:=Lib.hid hP
  have HD4:=Lib.hid hbo4
  have hknb:kn≤1099511001048:=by rw [hkn,hK,List.length_append,List.length_take];have:=HKL.out;have:=HK2.out;omega
  have HFL:Hid ([key.take u,k2].flatten=K):=Lib.hid (by rw [hK];simp)
  have hkcap:kl≤kc:=by
   have h1:=(HKA.out.sl HKL.out HX5.out fun z hz=>List.mem_cons_of_mem _ (List.mem_cons_of_mem _ (List.mem_cons_of_mem _ (List.mem_append_left _ (rowZ_mem hz (by simp [rowsZ])))))).cap
   exact h1
  have HSK:Hid (Sl x5 KA u kc (key.take u)):=Lib.hid ((HKA.out.sl HKL.out HX5.out fun z hz=>List.mem_cons_of_mem _ (List.mem_cons_of_mem _ (List.mem_cons_of_mem _ (List.mem_append_left _ (rowZ_mem hz (by simp [rowsZ])))))).take (by omega))
  have HSR:Hid (Sl x5 A3 k2n c3 k2):=Lib.hid (HX5.out.sl (i:=1) rfl HK2.out)
  clear hK hkn hP hbo4
  have i1:(0:Int)≤(u:Int):=by omega
  have i2:(u:Int)≤(kc:Int):=by omega
  have tk3:True:=trivial
  go_upto_if 77 with (first
   | (go_at_call 216;go_must (refine (sconcat_any [key.take u,k2] _ 2 2 _ (by omega) (by exact rbs_two HSK.out HSR.out _ _) (by rw [HFL.out,HKN.out];omega)).mono ?_);rw [HFL.out];rintro r x6 hp;obtain ⟨A5,c5,rfl,_,ho,hb⟩:=hp.at_ HKN.out;have HX6:=Lib.hid ((HX5.out.al (.cells #[.slice KA u kc,.slice A3 k2n c3] 34)).addF9 (OW.byt1 hb ho));clear hp ho hb)
   | (go_at_call 92;go_must (refine (parsekey_any K A5 kn c5 _ (HX6.out.sl (i:=0) rfl HKN.out) (by omega)).mono ?_);rw [HP.out];rintro r x7 ⟨A6,c6,B6,d6,D6,q6,rfl,hr,hb⟩;have HX7:=Lib.hid (HX6.out.addF9 (OW.rows1 hb hr));clear hr hb)
   | (refine wl_alloc rfl rfl [.slice none 0 0,.int .i64 0,.slice none 0 0,.int .i64 0,.int .i64 0,.int .i64 0,.slice none 0 0] (.inl (by kernel_rfl)) HX7.out ?_;intro ge z8 hz _;have HX8:=Lib.hid (hz.perm List.perm_append_comm);clear hz)
   | (refine wl_put rfl (.tmp 16) (.tmp 72) rfl HX8.out 0 rfl rfl [.slice A6 pe.row.length c6,.int .i64 pe.fam,.slice B6 pe.qual.length d6,.int .i64 pe.ts,.int .i64 pe.seq,.int .i64 pe.kind,.slice D6 pe.val.length q6] rfl rfl (by kernel_rfl) (by simp [Value.oneCell']) ?_;intro z9 hz _;have HX9:=Lib.hid hz;clear hz HX8)
   | (go_at_call 215;have _t:=tk3;go_must (refine (need_any pf 7 HX9.out rfl).mono ?_);rw [HD4.out];rintro r x9 ⟨rfl,hz⟩;have HX10:Hid (OW w (boxO ge [.slice A6 pe.row.length c6,.int .i64 pe.fam,.slice B6 pe.qual.length d6,.int .i64 pe.ts,.int .i64 pe.seq,.int .i64 pe.kind,.slice D6 pe.val.length q6]::bytO 5 (A6,c6,pe.row)::bytO 5 (B6,d6,pe.qual)::bytO 5 (D6,q6,pe.val)::bytO 5 (A5,c5,K)::bytO 5 (A4,c4,vv)::bytO 5 (A3,c3,k2)::boxO gk [.bool bo4]::(blkO R g lv sv zs ++ rest)) x9):=Lib.hid hz;clear hz tk3))
  clear HX5 HX6 HX7 HX9
  have HL1:Hid (zs.length=k):=Lib.hid HZ.out.2
  cases bo4 with
  | false =>
   have hE4:pf ≠ 0:=fun h=>by have h1:=HD4.out;rw [h] at h1;cases h1
   have HE4:=Lib.hid hE4
   clear hE4
   go_wp2_with fail
   go_ret
   exact hfail.out _ _ HX10.out (.cons _ (.cons _ (.cons _ (.cons _ (.cons _ (.cons _ (.cons _ (.cons _ (List.Sublist.refl _))))))))) (rd1_e R1'.out (by rw [HKL.out];omega) R2'.out R3'.out (by rw [← HK.out];exact HP.out) HE4.out) hlt
  | true =>
  have hE4:pf=0:=by have h1:=HD4.out;rw [beq_iff_eq] at h1;exact h1
  have HPI:=ParseKey_is (b:=K) (by rw [HP.out];exact hE4)
  rw [HP.out] at HPI
  have HPE:=Lib.hid HPI
  have hkn3:kn≤1048:=by have h1:=keyE_len HPI.1;rw [HPI.2.1,HKN.out] at h1;exact h1
  have HRG:Hid (rdF b (k + 1)=some (entsZ zs ++ [{ pe with val:=vv }],K,p3)):=Lib.hid (rdF_go HRD.out (by
   have h1:=rd1_ok (key:=key) R1'.out (by rw [HKL.out];omega) R2'.out R3'.out (by rw [← HK.out,HP.out,hE4])
   rw [← HK.out] at h1
   exact h1))
  clear hE4 HPI
  obtain ⟨LA,lc,hlv,_⟩:=own_slice (HX10.out.row (i:=9) rfl)
  obtain ⟨SA,sc,hsv,_⟩:=own_slice (HX10.out.row (i:=10) rfl)
  obtain ⟨M,hM⟩:∃ z,z=(zs.reverse.flatMap rowsZ).map (bytO 5) ++ rest:=⟨_,rfl⟩
  obtain ⟨EC,hEC⟩:∃ z,z=zs.flatMap (·.1.cells):=⟨_,rfl⟩
  obtain ⟨KC,hKC⟩:∃ z,z=zs.map (valR ·.2):=⟨_,rfl⟩
  have HX11:Hid (OW w (boxO ge [.slice A6 pe.row.length c6,.int .i64 pe.fam,.slice B6 pe.qual.length d6,.int .i64 pe.ts,.int .i64 pe.seq,.int .i64 pe.kind,.slice D6 pe.val.length q6]::bytO 5 (A6,c6,pe.row)::bytO 5 (B6,d6,pe.qual)::bytO 5 (D6,q6,pe.val)::bytO 5 (A5,c5,K)::bytO 5 (A4,c4,vv)::bytO 5 (A3,c3,k2)::boxO gk [.bool true]::boxO g [i64v R,.slice LA k lc,.slice SA k sc]::rowO 60 7 (.slice LA k lc) (k) (EC)::rowO 34 1 (.slice SA k sc) (k) (KC)::M) x9):=Lib.hid (by
   have h:=HX10.out
   rw [hlv,hsv] at h
   unfold blkO at h
   rw [HL1.out,← hEC,← hKC,List.cons_append,List.cons_append,List.cons_append,← hM] at h
   exact h)
  have HM:=Lib.hid hM
  have HEC:=Lib.hid hEC
  have HKC:=Lib.hid hKC
  clear HX10 hM hEC hKC hlv hsv
  go_wp2_with (refine wl_put1 rfl (.tmp 79) (.tmp 78) rfl HX11.out 0 rfl 6 rfl (by show 6 < 7;decide) (.slice A4 vn c4) rfl (by kernel_rfl) rfl ?_;intro x10 hz _;have HX12:Hid (OW w (boxO ge [.slice A6 pe.row.length c6,.int .i64 pe.fam,.slice B6 pe.qual.length d6,.int .i64 pe.ts,.int .i64 pe.seq,.int .i64 pe.kind,.slice A4 vn c4]::bytO 5 (A6,c6,pe.row)::bytO 5 (B6,d6,pe.qual)::bytO 5 (D6,q6,pe.val)::bytO 5 (A5,c5,K)::bytO 5 (A4,c4,vv)::bytO 5 (A3,c3,k2)::boxO gk [.bool true]::boxO g [i64v R,.slice LA k lc,.slice SA k sc]::rowO 60 7 (.slice LA k lc) (k) (EC)::rowO 34 1 (.slice SA k sc) (k) (KC)::M) x10):=Lib.hid hz;clear hz HX11)
  refine lt_start [7,10] (by kernel_rfl) ?_
  intro xd hd
  refine ⟨fun z=>OW w (boxO ge [.slice A6 pe.row.length c6,.int .i64 pe.fam,.slice B6 pe.qual.length d6,.int .i64 pe.ts,.int .i64 pe.seq,.int .i64 pe.kind,.slice A4 vn c4]::bytO 5 (A6,c6,pe.row)::bytO 5 (B6,d6,pe.qual)::bytO 5 (D6,q6,pe.val)::bytO 5 (A5,c5,K)::bytO 5 (A4,c4,vv)::bytO 5 (A3,c3,k2)::boxO gk [.bool true]::boxO g [i64v R,.slice LA k lc,.slice SA k sc]::rowO 60 7 (.slice LA k lc) (k) (EC)::rowO 34 1 (.slice SA k sc) (k) (KC)::M) z,?_⟩
  have HS2:=Lib.hid (HX12.out.later hd)
  refine lp2 0 rfl (fun _=>HS2.out) ?_
  simp only [Act.put,ls]
  refine lp2 1 rfl (fun _=>HS2.out) ?_
  simp only [Act.put,ls]
  refine lp2 2 rfl (fun _=>HS2.out) ?_
  simp only [Act.put,ls]
  refine lp2 3 rfl (fun _=>HS2.out) ?_
  simp only [Act.put,ls]
  refine lq 4 [7,8,9,10] rfl (yi_cell rfl rfl rfl (fun w hS=>OW.cell hS (i:=8) (j:=1) rfl rfl) Tryz.isAgg24) HS2.out ?_
  simp only [Act.put,ls]
  refine lq 5 [6,7,8,9,10] rfl (yi_row rfl rfl rfl (fun w hS=>OW.range hS (i:=0) rfl) ent_row5) HS2.out ?_
  simp only [Act.put,ls]
  refine lt_op 6 rfl (by kernel_rfl) rfl ?_
  refine wpo_build rfl #[.slice A6 pe.row.length c6,.int .i64 pe.fam,.slice B6 pe.qual.length d6,.int .i64 pe.ts,.int .i64 pe.seq,.int .i64 pe.kind,.slice A4 vn c4] Tryz.entsS (.agg #[.slice none 0 0,.int .i64 0,.slice none 0 0,.int .i64 0,.int .i64 0,.int .i64 0,.slice none 0 0]) (by kernel_rfl) (by decide) (by decide) (by decide) rfl (by kernel_rfl) HS2.out ?_
  intro g4 y4 hz hb
  have HR:Hid (Reads y4 y4.heap.size 7 (some ⟨g4,0,none⟩) 1 [.slice A6 pe.row.length c6,.int .i64 pe.fam,.slice B6 pe.qual.length d6,.int .i64 pe.ts,.int .i64 pe.seq,.int .i64 pe.kind,.slice A4 vn c4]):=Lib.hid (Reads.own (OW.row (OW.right hz) (i:=0) rfl))
  replace HS2:=Lib.hid (HS2.out.later hb)
  clear hz hb
  refine ⟨fun _=>HS2.out,?_⟩
  simp only [Act.put,ls]
  refine lt_end 7 rfl (by kernel_rfl) rfl (by kernel_rfl) ?_
  refine wpo_append (.tmp 84) (.tmp 86) rfl Tryz.entsS HS2.out 9 rfl rfl _ (some ⟨g4,0,none⟩) 1 1 [.slice A6 pe.row.length c6,.int .i64 pe.fam,.slice B6 pe.qual.length d6,.int .i64 pe.ts,.int .i64 pe.seq,.int .i64 pe.kind,.slice A4 vn c4] rfl HR.out (by simp [Value.oneCell']) (by unfold maxLen;omega) (by omega) ?_
  intro A7 c7 y5 hz _
  have HY:=Lib.hid hz
  clear hz HR
  simp only [Act.put,ls]
  refine lt_pureF 8 rfl (by kernel_rfl) (by kernel_rfl) (by kernel_rfl) (by kernel_rfl) (by kernel_rfl) (fun _ _ _ h=>h) (v:=?_) (yi_run rfl (fun w=>?_)) ?_
  rotate_left
  ·first | (go_simp;done) | (go_simp;with_reducible rfl)
  simp only [Act.put,ls]
  refine lt_pureF 9 rfl (by kernel_rfl) (by kernel_rfl) (by kernel_rfl) (by kernel_rfl) (by kernel_rfl) (fun _ _ _ h=>h) (v:=?_) (yi_run rfl (fun w=>?_)) ?_
  rotate_left
  ·first | (go_simp;done) | (go_simp;with_reducible rfl)
  simp only [Act.put,ls]
  refine lt_end 10 rfl (by kernel_rfl) rfl (by kernel_rfl) ?_
  refine wpo_put1 rfl HY.out 8 rfl 1 rfl (by show 1 < 3;decide) (.slice A7 (k + 1) c7) rfl (by kernel_rfl) rfl ?_
  intro y6 hz _
  replace HY:Hid (OW w (boxO ge [.slice A6 pe.row.length c6,.int .i64 pe.fam,.slice B6 pe.qual.length d6,.int .i64 pe.ts,.int .i64 pe.seq,.int .i64 pe.kind,.slice A4 vn c4]::bytO 5 (A6,c6,pe.row)::bytO 5 (B6,d6,pe.qual)::bytO 5 (D6,q6,pe.val)::bytO 5 (A5,c5,K)::bytO 5 (A4,c4,vv)::bytO 5 (A3,c3,k2)::boxO gk [.bool true]::boxO g [i64v R,.slice A7 (k + 1) c7,.slice SA k sc]::rowO 60 7 (.slice A7 (k + 1) c7) (k + 1) (EC ++ [.slice A6 pe.row.length c6,.int .i64 pe.fam,.slice B6 pe.qual.length d6,.int .i64 pe.ts,.int .i64 pe.seq,.int .i64 pe.kind,.slice A4 vn c4])::rowO 34 1 (.slice SA k sc) (k) (KC)::M) y6):=Lib.hid hz
  clear hz
  simp only [Act.put]
  refine lt_done (by kernel_rfl) ?_
  clear HS2
  have tk9:True:=trivial
  go_wp2_with (first
   | (refine wpList_load_cell rfl 88 (.tmp 93) rfl rfl (HY.out.cell (i:=8) (j:=2) rfl rfl) Tryz.isAgg88 ?_)
   | (at_builtin;have _t:=tk9;go_must (refine wl_append rfl (.tmp 94) (.tmp 96) rfl Tryz.keyS5 (HY.out.al (.cells #[.slice A5 kn c5] 34)) 10 rfl rfl _ (some ⟨y6.heap.size,0,none⟩) 1 1 [.slice A5 kn c5] rfl (lit_one8 _ _ _ _ rfl) (by simp [Value.oneCell']) (by unfold maxLen;omega) (by omega) ?_);intro A8 c8 y7 hz _;have HQ:=Lib.hid hz;clear hz tk9 HY)
   | (refine wl_put1 rfl (.tmp 99) (.tmp 97) rfl HQ.out 8 rfl 2 rfl (by show 2 < 3;decide) (.slice A8 (k + 1) c8) rfl (by kernel_rfl) rfl ?_;intro y8 hz _;have HQ2:Hid (OW w (boxO ge [.slice A6 pe.row.length c6,.int .i64 pe.fam,.slice B6 pe.qual.length d6,.int .i64 pe.ts,.int .i64 pe.seq,.int .i64 pe.kind,.slice A4 vn c4]::bytO 5 (A6,c6,pe.row)::bytO 5 (B6,d6,pe.qual)::bytO 5 (D6,q6,pe.val)::bytO 5 (A5,c5,K)::bytO 5 (A4,c4,vv)::bytO 5 (A3,c3,k2)::boxO gk [.bool true]::boxO g [i64v R,.slice A7 (k + 1) c7,.slice A8 (k + 1) c8]::rowO 60 7 (.slice A7 (k + 1) c7) (k + 1) (EC ++ [.slice A6 pe.row.length c6,.int .i64 pe.fam,.slice B6 pe.qual.length d6,.int .i64 pe.ts,.int .i64 pe.seq,.int .i64 pe.kind,.slice A4 vn c4])::rowO 34 1 (.slice A8 (k + 1) c8) (k + 1) (KC ++ [.slice A5 kn c5])::M) y8):=Lib.hid hz;clear hz HQ))
  go_roundw
  case rel =>
   refine ⟨k + 1,p3,zs ++ [(⟨A6,c6,B6,d6,A4,c4,{ pe with val:=vv }⟩,(A5,c5,K))],.slice A7 (k + 1) c7,.slice A8 (k + 1) c8,A5,kn,c5,K,by omega,by go_num,rfl,rfl,hkn3,HKN,Lib.hid (.inr ⟨_,List.mem_append_right _ (List.mem_singleton.2 rfl),rfl⟩),Lib.hid ⟨fun z hz=>?_,by rw [List.length_append,HL1.out];rfl⟩,Lib.hid (by rw [entsZ_snoc];exact HRG.out),Lib.hid ?_⟩
   ·rcases List.mem_append.1 hz with h1 | h1
    ·exact HZ.out.1 z h1
    ·obtain rfl:=List.mem_singleton.1 h1
     exact ⟨HPE.out.2.1.symm,(show (keyE pe).length≤1048 from keyE_len HPE.out.1)⟩
   ·have h:=HQ2.out
    have h:=(((((((h.front (i:=4) rfl).front (i:=5) rfl).front (i:=4) rfl).front (i:=4) rfl).front (i:=10) rfl).front (i:=10) rfl).front (i:=10) rfl).front (i:=10) rfl
    have e1:(zs ++ [((⟨A6,c6,B6,d6,A4,c4,{ pe with val:=vv }⟩:ER),(A5,c5,K))]).length=k + 1:=by rw [List.length_append,HL1.out];rfl
    have e2:(zs ++ [((⟨A6,c6,B6,d6,A4,c4,{ pe with val:=vv }⟩:ER),(A5,c5,K))]).flatMap (·.1.cells)=EC ++ [.slice A6 pe.row.length c6,.int .i64 pe.fam,.slice B6 pe.qual.length d6,.int .i64 pe.ts,.int .i64 pe.seq,.int .i64 pe.kind,.slice A4 vn c4]:=by
     rw [List.flatMap_append,HEC.out];simp only [List.flatMap_cons,List.flatMap_nil,List.append_nil,ER.cells];rw [HVN.out]
    have e3:(zs ++ [((⟨A6,c6,B6,d6,A4,c4,{ pe with val:=vv }⟩:ER),(A5,c5,K))]).map (valR ·.2)=KC ++ [.slice A5 kn c5]:=by
     rw [List.map_append,HKC.out];simp only [List.map_cons,List.map_nil,valR];rw [HKN.out]
    unfold blkO
    rw [e1,e2,e3,List.reverse_append,List.flatMap_append,List.map_append,List.cons_append,List.cons_append,List.cons_append,List.append_assoc,← HM.out]
    exact OW.sub h (.cons_cons _ (.cons_cons _ (.cons_cons _ (.cons_cons _ (.cons_cons _ (.cons_cons _ (.cons_cons _ (.cons_cons _ (.cons _ (.cons _ (.cons _ (List.Sublist.refl _))))))))))))
  case measure=>simp [intOf];omega
end Go.Proofs.YtfdbcfaeiglbeaaGreatDoor
