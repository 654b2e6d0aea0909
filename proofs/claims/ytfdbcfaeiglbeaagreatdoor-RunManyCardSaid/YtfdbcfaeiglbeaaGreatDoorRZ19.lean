/-
 CellR4, CellR6, CellW9, BlockL1, BlockM1, BlockB4, BlockB5, BlockC2, BlockD1, BlockP8.
-/
import Derived.Test.YtfdbcfaeiglbeaaGreatDoorRZ18
import Derived.Lib.SlBytesConst
namespace Go.Proofs.YtfdbcfaeiglbeaaGreatDoor
open Go.RowKit
theorem keyE_ok {e:Ent} (h:checkE e=0):KeyE e=(keyE e,0):=by unfold KeyE;rw [if_pos h]
theorem conv_const (W:World) (C:Array Value) (n c g:Nat) (hg:g=W.heap.size):(convert 34 34 (.slice (some ⟨g,0,none⟩) n c)).run Tryz.prog (W.alloc (.cells C 5)) = .ok (.slice (some ⟨g,0,none⟩) n c) (W.alloc (.cells C 5 (C.size,C.size + 1))):=by
 subst hg;exact Lib.run_convert_bytes_const (P:=Tryz.prog) W 34 5 C n c Tryz.underlying34 Tryz.underlying5
theorem three_lits (w:World) (o:Obj) (a b d:UInt8) (t:TypeId) (fr:Nat×Nat):∀ W,W=(((w.alloc o).alloc (.cells #[u8v a] t fr)).alloc (.cells #[u8v b] t fr)).alloc (.cells #[u8v d] t fr) →
  Sl W (some ⟨w.heap.size + 1,0,none⟩) 1 1 [a]∧Sl W (some ⟨w.heap.size + 1 + 1,0,none⟩) 1 1 [b]∧Sl W (some ⟨w.heap.size + 1 + 1 + 1,0,none⟩) 1 1 [d]∧Below (w.alloc o).heap.size (w.alloc o) W:=by
 rintro W rfl
 have hz:∀ (x:World) (o:Obj),(x.alloc o).heap.size=x.heap.size + 1:=fun x o=>by show (x.heap.push _).size=_;simp
 have hb:∀ (x:World) (o:Obj),Below x.heap.size x (x.alloc o):=fun x o=>(Below.refl _ x).alloc (Nat.le_refl _) o
 have s1:=Sl.lit (w.alloc o) #[u8v a] [a] t fr rfl rfl (by show (1:Nat)≤9223372036854775807;decide)
 have s2:=Sl.lit ((w.alloc o).alloc (.cells #[u8v a] t fr)) #[u8v b] [b] t fr rfl rfl (by show (1:Nat)≤9223372036854775807;decide)
 have s3:=Sl.lit (((w.alloc o).alloc (.cells #[u8v a] t fr)).alloc (.cells #[u8v b] t fr)) #[u8v d] [d] t fr rfl rfl (by show (1:Nat)≤9223372036854775807;decide)
 rw [hz w o] at s1
 rw [hz _ _,hz w o] at s2
 rw [hz _ _,hz _ _,hz w o] at s3
 exact ⟨(s1.later (hb _ _)).later (hb _ _),s2.later (hb _ _),s3,((hb _ _).trans ((hb _ _).mono (by rw [hz (w.alloc o)];omega))).trans ((hb _ _).mono (by rw [hz ((w.alloc o).alloc _),hz (w.alloc o)];omega))⟩
def mkL (j:Nat):List UInt8:=[201,202,203,204,205] ++ List.replicate j 206
structure EnM (w:World) (A:Option Addr) (n c:Nat) (B:Option Addr) (m d:Nat) (D:Option Addr) (v q:Nat) (e:Ent):Prop where
  row:Sl w A (n + 75) c (e.row ++ mkL 70)
  qual:Sl w B (m + 75) d (e.qual ++ mkL 70)
  val:Sl w D (v + 75) q (e.val ++ mkL 70)
  lr:e.row.length=n∧n≤5000
  lq:e.qual.length=m∧m≤5000
  lv:e.val.length=v∧v≤5000
section
variable {w x : World} {A : Option Addr} {n c : Nat} {B : Option Addr} {m d : Nat} {D : Option Addr} {v q : Nat} {e : Ent}
theorem EnM.later (h:EnM w A n c B m d D v q e) (hb:Below w.heap.size w x):EnM x A n c B m d D v q e:=⟨h.row.later hb,h.qual.later hb,h.val.later hb,h.lr,h.lq,h.lv⟩
theorem sl_front {l:List UInt8} {k:Nat} (h:Sl w A (n + k) c (l ++ mkL 70)) (hl:l.length=n):Sl w A n c l:=by
 have h2:=h.take (m:=n) (by omega)
 rwa [List.take_left' hl] at h2
theorem EnM.en (h:EnM w A n c B m d D v q e):En w A n c B m d D v q e:=⟨sl_front h.row h.lr.1,sl_front h.qual h.lq.1,sl_front h.val h.lv.1⟩
end
theorem places_take {l:List Nat} {k v:Nat} (h:l[k]?=some v):(l.take (k + 1)).flatMap four4=(l.take k).flatMap four4 ++ four4 v:=by
 rw [take_snoc h,List.flatMap_append];simp
theorem runE_places (R:Nat):∀ (l:List Ent) (s:BSt),(∀ p,p ∈ s.places→p≤s.body.length)→∀ p,p ∈ (runE R s l).places→p≤(runE R s l).body.length
 | [],_,h=>h
 | e::l,s,h=>runE_places R l (stepB R s (keyE e) e.val) (fun p hp=>by
  simp only [stepB] at hp ⊢
  rw [List.length_append]
  unfold placesB at hp
  split at hp
  ·rcases List.mem_append.1 hp with h1 | h1
   ·have:=h p h1;omega
   ·have:=List.mem_singleton.1 h1;omega
  ·have:=h p hp;omega)
theorem runB_places (R:Nat) (l:List Ent) (p:Nat) (h:p ∈ (runB R l).places):p≤(runB R l).body.length:=runE_places R l bst0 (fun p h=>(by cases h)) p h
set_option maxRecDepth 100000 in
set_option maxHeartbeats 4000000 in
theorem finish_any {w x:World} {R g:Nat} {L:List Ent} {os rest:List Ob} (hb:Bld R L g os) (h:OW w (os ++ rest) x) (ht:TabAt 0 x) :
  Calls Tryz.prog 110 #[.pointer (some ⟨g,0,none⟩)] x (BytesPost2 5 (finE R L).1 (finE R L).2 x):=by
 have HSZ1:=Lib.hid (fun z (hz:Below x.heap.size x z)=>size_any hb (h.later hz))
 have HTB:Hid (∀ z,Below x.heap.size x z→TabAt 0 z):=Lib.hid fun z hz=>ht.later hz
 obtain ⟨hR,hsz,_,_,m,rfl,_⟩:=hb
 have hpl0:=runB_places R L
 obtain ⟨s,hs⟩:∃ z,z=runB R L:=⟨_,rfl⟩
 rw [← hs] at h hsz hpl0
 obtain ⟨P,pc,hpv,_⟩:=own_slice (h.row (i:=2) rfl)
 obtain ⟨bl,hbl⟩:∃ z,z=s.body.length:=⟨_,rfl⟩
 obtain ⟨pn,hpn⟩:∃ z,z=s.places.length:=⟨_,rfl⟩
 obtain ⟨N,hN⟩:∃ z,z=s.n:=⟨_,rfl⟩
 have hNL:N=L.length:=by rw [hN,hs,runB_n]
 have hNb:N≤131072:=by have h1:=n_le_size _ (runB_many R L);rw [← hs] at h1;omega
 have hlim:bl + 4 * pn + 9≤131072:=by unfold sizeS at hsz;omega
 have HS0:=Lib.hid hs
 have HBL:=Lib.hid hbl.symm
 have HPN:=Lib.hid hpn.symm
 have HN:=Lib.hid hN.symm
 have HNL:=Lib.hid hNL
 have HPL:=Lib.hid hpl0
 obtain ⟨szn,hszn⟩:∃ z,z=szB R L:=⟨_,rfl⟩
 have HSN:=Lib.hid hszn.symm
 have HC:Hid (∀ z,Below x.heap.size x z→z.cell? ⟨g,0,none⟩=some (.int .i64 (R:Int))∧z.cell? ⟨g,1,none⟩=some (.slice m.B bl m.bc)∧z.cell? ⟨g,2,none⟩=some (.slice P pn pc)∧z.cell? ⟨g,5 + 6,none⟩=some (.int .i64 (N:Int))∧Sl z m.B bl m.bc s.body∧Reads z z.heap.size 1 P pn (s.places.map i64v)):=Lib.hid fun z hz=>by
  have h':=h.later hz
  rw [hbl,hN]
  refine ⟨h'.cell (i:=0) (j:=0) rfl rfl,h'.cell (i:=0) (j:=1) rfl rfl,?_,h'.cell (i:=0) (j:=11) rfl rfl,h'.sl (i:=1) rfl rfl,?_⟩
  ·have:=h'.cell (i:=0) (j:=2) rfl rfl
   rw [this,hpv,hpn]
  ·have:=h'.row (i:=2) rfl
   rw [hpv,← hpn] at this
   exact Reads.own this
 have HRR:=Lib.hid hR
 have hR1:=hR.1
 have hR2:=hR.2
 clear h hs hbl hpn hN hpv hNL hpl0 hszn hsz hR ht
 by_cases h0:N=0
 case pos =>
  have HF:Hid (finE R L=([],54)):=Lib.hid (by unfold finE;rw [if_pos (List.eq_nil_of_length_eq_zero (by rw [← HNL.out,h0]))])
  subst h0
  obtain ⟨_,_,_,c3,_⟩:=HC.out x (Below.refl _ _)
  go_enter Tryz.func110,Tryz.ntmps110
  go_wp2_with (refine wpList_load_cell rfl 3 (.tmp 10) rfl rfl c3 Tryz.isAgg3 ?_)
  go_ret2
  rw [HF.out]
  exact bytes_post2 (n:=0) (own_nil _ _ _ _) (Below.refl _ _)
 have hd:((N:Int) == 0)=false:=beq_eq_false_iff_ne.2 (by omega)
 have HFL:Hid (finE R L=(headB5 R s ++ lowB (sumL (headB5 R s)),0)):=Lib.hid (by
  have h1:L ≠ []:=fun e=>h0 (by rw [HNL.out,e];rfl)
  unfold finE layB
  rw [if_neg h1,if_neg h1,← HS0.out];rfl)
 have hsz2:szn≤131072:=by
  have h1:L ≠ []:=fun e=>h0 (by rw [HNL.out,e];rfl)
  have:=HSN.out
  unfold szB at this
  rw [if_neg h1,← HS0.out] at this
  unfold sizeS at this
  have:=HBL.out
  have:=HPN.out
  omega
 obtain ⟨_,_,_,c3,_⟩:=HC.out x (Below.refl _ _)
 have HX:=Lib.hid (OW.nil x)
 go_enter Tryz.func110,Tryz.ntmps110
 go_wp2_with (first
  | (refine wpList_load_cell rfl 3 (.tmp 10) rfl rfl c3 Tryz.isAgg3 ?_)
  | (go_at_call 108;go_must (refine (HSZ1.out _ HX.out.up).mono ?_);rw [HSN.out];rintro r z1 ⟨rfl,hb⟩;replace HX:=Lib.hid (HX.out.later hb);clear hb c3)
  | (at_make;go_must (refine wl_make0 rfl _ _ rfl Tryz.u8s' szn _ rfl rfl rfl (by omega) (by unfold maxLen;omega) HX.out ?_);intro g1 z2 hz _;have HX2:Hid (OW x [bytO 5 (some ⟨g1,0,none⟩,szn,[])] z2):=Lib.hid hz;obtain ⟨_,d1,d2,_,s1,_⟩:=HC.out z2 HX2.out.up;have S1:=Lib.hid s1;clear hz HX s1)
  | (refine wpList_load_cell rfl 34 (.tmp 19) rfl rfl d1 Tryz.isAgg34 ?_)
  | (at_builtin;go_must (refine wl_appB rfl (.tmp 16) (.tmp 20) rfl Tryz.u8s' HX2.out 0 rfl rfl rfl _ _ bl _ s.body rfl S1.out.rb (by simp;omega) ?_);intro A3 c4 z3 hz;have HX3:Hid (OW x [bytO 5 (A3,c4,s.body)] z3):=Lib.hid hz;obtain ⟨_,_,d3,_⟩:=HC.out z3 HX3.out.up;clear hz d1 d2 S1)
  | (refine wpList_load_cell rfl 141 (.tmp 24) rfl rfl d3 Tryz.isAgg141 ?_))
 go_loopw [4,27] (fun v i wr=>∃ (k:Nat) (A:Option Addr) (c n:Nat) (l:List UInt8),k≤pn∧n≤131072 + 4 * k∧i = .int .i64 k∧v = .slice A n c∧Hid (l.length=n)∧Hid (l=s.body ++ (s.places.take k).flatMap four4)∧Hid (OW x [bytO 5 (A,c,l)] wr)) (fun _ i _=>pn - (intOf i).toNat)
 case atStart=>exact ⟨0,A3,c4,bl,s.body,Nat.zero_le _,by omega,rfl,rfl,HBL,Lib.hid (by simp),HX3⟩
 case round =>
  clear HX3 d3
  obtain ⟨k,A5,c5,n5,l5,hk,hn5,rfl,rfl,HL5,HP5,HX5⟩:=hrel
  by_cases hlt:k < pn
  case pos =>
   have hdk:decide ((k:Int) < (pn:Int))=true:=decide_eq_true (by omega)
   obtain ⟨_,_,_,_,_,hr⟩:=HC.out wr HX5.out.up
   obtain ⟨b,o,rfl,_,hcc⟩:=hr.2 (by omega)
   have hpk:s.places[k]?=some (s.places[k]'(by rw [HPN.out];exact hlt)):=List.getElem?_eq_getElem _
   obtain ⟨pv,hpv⟩:∃ z,z=s.places[k]'(by rw [HPN.out];exact hlt):=⟨_,rfl⟩
   rw [← hpv] at hpk
   have hc1:wr.cell? ⟨b,o + k,none⟩=some (.int .i64 (pv:Int)):=hcc k _ (by rw [List.getElem?_map,hpk];rfl)
   have hpb:pv≤131072:=by have:=HPL.out pv (List.mem_of_getElem? hpk);have:=HBL.out;omega
   have HPT:=Lib.hid (places_take hpk)
   have i1:(0:Int)≤(k:Int):=by omega
   have i2:(k:Int) < (pn:Int):=by omega
   clear hr hcc hpk hpv
   go_wp2_with (first
    | (go_at_call 164;go_must (refine (four_any pv _ (by omega)).mono ?_);rintro r z4 hp;obtain ⟨A6,c6,rfl,hs6,_,hb⟩:=hp.at_ (n:=4) rfl;have HS6:=Lib.hid hs6;replace HX5:=Lib.hid (HX5.out.later hb);clear hp hb hs6 hc1)
    | (at_builtin;go_must (refine wl_appB rfl (.tmp 31) (.tmp 34) rfl Tryz.u8s' HX5.out 0 rfl HL5.out rfl _ _ 4 _ (four4 pv) rfl HS6.out.rb (by omega) ?_);intro A7 c7 z5 hz;have HX7:Hid (OW x [bytO 5 (A7,c7,l5 ++ four4 pv)] z5):=Lib.hid hz;clear hz HX5 HS6))
   go_roundw
   case rel=>exact ⟨k + 1,A7,c7,n5 + 4,l5 ++ four4 pv,by omega,by omega,by go_num,rfl,Lib.hid (by rw [List.length_append,HL5.out];rfl),Lib.hid (by rw [HPT.out,HP5.out,List.append_assoc]),HX7⟩
   case measure=>simp [intOf];omega
  have hdk:decide ((k:Int) < (pn:Int))=false:=decide_eq_false (by omega)
  have HP6:Hid (l5=s.body ++ s.places.flatMap four4):=Lib.hid (by rw [HP5.out,take_all (by have:=HPN.out;omega)])
  obtain ⟨hd,hhd⟩:∃ z,z=headB5 R s:=⟨_,rfl⟩
  obtain ⟨_,_,_,c3,_⟩:=HC.out wr HX5.out.up
  have HHD:=Lib.hid hhd
  have HL7:Hid ((l5 ++ four4 N).length=n5 + 4):=Lib.hid (by rw [List.length_append,HL5.out];rfl)
  have HL8:Hid ((l5 ++ four4 N ++ [UInt8.ofNat R]).length=n5 + 4 + 1):=Lib.hid (by rw [List.length_append,HL7.out];rfl)
  have HE8:Hid (l5 ++ four4 N ++ [UInt8.ofNat R]=hd):=Lib.hid (by rw [hhd,HP6.out,← HN.out];rfl)
  have HU8:Hid ([Value.int .u8 (R:Int)]=u8s [UInt8.ofNat R]):=Lib.hid (by
   show _=[u8v _]
   unfold u8v
   rw [UInt8.toNat_ofNat',Nat.mod_eq_of_lt (by omega)])
  have HLD:Hid (hd.length=n5 + 4 + 1):=Lib.hid (by rw [← HE8.out];exact HL8.out)
  have f1:Hid (∀ x:List UInt8,[x].flatten=x):=Lib.hid fun x=>by simp
  obtain ⟨sm,hsm⟩:∃ z,z=sumL hd:=⟨_,rfl⟩
  have hs32:sm < 4294967296:=by rw [hsm];exact sumL_lt hd
  have HSM:=Lib.hid hsm
  obtain ⟨q3,q2,q1,q0,hf4,hlw⟩:∃ a b d e,four4 sm=[a,b,d,e]∧lowB sm=[e,d,b,a]:=⟨_,_,_,_,rfl,rfl⟩
  have HF4:=Lib.hid hf4
  have HLW:=Lib.hid hlw
  clear HP5 hhd hsm hf4 hlw
  have tk1:True:=trivial
  have tk2:True:=trivial
  have tk3:True:=trivial
  go_wp2_with (first
   | (refine wpList_load_cell rfl 3 (.tmp 40) rfl rfl c3 Tryz.isAgg3 ?_)
   | (go_at_call 164;have _t:=tk1;go_must (refine (four_any N _ (by omega)).mono ?_);rintro r z4 hp;obtain ⟨A6,c6,rfl,hs6,_,hb⟩:=hp.at_ (n:=4) rfl;have HS6:=Lib.hid hs6;replace HX5:=Lib.hid (HX5.out.later hb);clear hp hb hs6 c3 tk1)
   | (at_builtin;have _t:=tk2;go_must (refine wl_appB rfl (.tmp 37) (.tmp 43) rfl Tryz.u8s' HX5.out 0 rfl HL5.out rfl _ _ 4 _ (four4 N) rfl HS6.out.rb (by omega) ?_);intro A7 c7 z5 hz;have HX7:Hid (OW x [bytO 5 (A7,c7,l5 ++ four4 N)] z5):=Lib.hid hz;obtain ⟨d0,_⟩:=HC.out z5 HX7.out.up;clear hz HX5 HS6 tk2)
   | (refine wpList_load_cell rfl 3 (.tmp 48) rfl rfl d0 Tryz.isAgg3 ?_)
   | (at_builtin;have _t:=tk3;go_must (refine wl_appB rfl (.tmp 45) (.tmp 51) rfl Tryz.u8s' (HX7.out.al (.cells #[.int .u8 (R:Int)] 5)) 0 rfl HL7.out rfl _ (some ⟨z5.heap.size,0,none⟩) 1 1 [UInt8.ofNat R] rfl (by exact reads_lit z5 _ [UInt8.ofNat R] _ _ HU8.out) (by omega) ?_);intro A8 c8 z6 hz;rw [HE8.out] at hz;have HX8:Hid (OW x [bytO 5 (A8,c8,hd)] z6):=Lib.hid hz;have HS8:=Lib.hid (HX8.out.sl (i:=0) rfl HLD.out);clear hz HX7 d0 tk3)
   | (go_at_call 135;go_must (refine (sum_any [hd] _ 1 1 _ (by omega) (by exact HS8.out.one _ _) (HTB.out _ ((HX8.out.al (.cells #[.slice A8 (n5 + 4 + 1) c8] 34)).up))).mono ?_);rintro r w1 ⟨rfl,rfl⟩;rw [f1.out,← HSM.out];have HX9:=Lib.hid (HX8.out.al (.cells #[.slice A8 (n5 + 4 + 1) c8] 34)))
   | (go_at_call 164;go_must (refine (four_any sm _ hs32).mono ?_);rintro r z7 hp;rw [HF4.out] at hp;obtain ⟨A9,c9,rfl,_,ho,hb⟩:=hp.at_ (n:=4) rfl;obtain ⟨g9,cp9,hv,_,_,_⟩:=own_form ho (by show 0 < 4;omega);injection hv with hv _ hcp;subst hv;subst hcp;have HY:=Lib.hid (OW.byt1 hb ho);clear hp hb ho)
   | (go_at_call 165;go_must (refine (reverse4_any _ _ _ _ g9 _ _ _ HY.out).mono ?_);rintro r z8 ⟨rfl,hx⟩;have HZ:=Lib.hid (HX9.out.app hx);clear hx)
   | (at_builtin;go_must (refine wl_appB rfl (.tmp 59) (.tmp 60) rfl Tryz.u8s' HZ.out 0 rfl HLD.out rfl _ _ 4 _ [q0,q1,q2,q3] rfl (HZ.out.sl (i:=1) rfl rfl).rb (by omega) ?_);intro A10 c10 z9 hz;have HQ:=Lib.hid (hz.left (ps:=[_]) (os:=[_]));clear hz))
  go_ret2
  rw [HFL.out]
  exact OW.bytes2 HQ.out (by rw [← HHD.out,← HSM.out,HLW.out]) (n:=n5 + 4 + 1 + 4) (by rw [List.length_append,HLD.out];rfl) rfl rfl
theorem begin_no (R:Int) (w:World) (h:R < 1∨16 < R):Calls Tryz.prog 107 #[.int .i64 R] w fun e w'=>e = .returned (.tuple #[.pointer none,.int .i64 1])∧Below w.heap.size w w' :=
 (begin_any R w).mono fun e w' hp=>by
  rcases hp with ⟨_,h1,h2⟩ | ⟨h1,h2,_⟩
  ·exact ⟨h1,h2⟩
  ·omega
theorem begin_ok (R:Nat) (w:World) (h1:1≤R) (h2:R≤16):Calls Tryz.prog 107 #[.int .i64 (R:Int)] w fun e w'=>∃ g os,e = .returned (.tuple #[.pointer (some ⟨g,0,none⟩),.int .i64 0])∧Bld R [] g os∧OW w os w' :=
 (begin_any R w).mono fun e w' hp=>by
  rcases hp with ⟨h,_⟩ | ⟨_,_,g,os,h3,h4,h5⟩
  ·omega
  ·rw [Int.toNat_natCast] at h4;exact ⟨g,os,h3,h4,h5⟩
theorem addC_step {R:Nat} {es:List Ent} {k:Nat} {e:Ent} (hk:es[k]?=some e) (h0:(buildK R [] (es.take k)).1=0):(addC R (es.take k) e=0→addL R (es.take k) e=es.take (k + 1)∧(buildK R [] (es.take (k + 1))).1=0)∧(addC R (es.take k) e ≠ 0→(buildK R [] es).1=addC R (es.take k) e):=by
 have ht:es.take (k + 1)=es.take k ++ [e]:=take_snoc hk
 have hb:=buildK_app R (es.take k) [] [e]
 rw [if_pos h0,List.nil_append] at hb
 refine ⟨fun h=>⟨by unfold addL;rw [if_pos h,ht],?_⟩,fun h=>?_⟩
 ·rw [ht,hb];unfold buildK;rw [if_pos h];rfl
 ·have h2:=buildK_app R (es.take k ++ [e]) [] (es.drop (k + 1))
  have e1:es.take k ++ [e] ++ es.drop (k + 1)=es:=by rw [← ht,List.take_append_drop]
  rw [e1,hb] at h2
  have h3:buildK R (es.take k) [e]=(addC R (es.take k) e,es.take k):=by unfold buildK;rw [if_neg h]
  rw [h3] at h2
  rw [h2,if_neg h]
set_option maxRecDepth 100000 in
set_option maxHeartbeats 4000000 in
theorem build_any (R:Int) (es:List Ent) (A:Option Addr) (n c:Nat) (w:World) (hes:Ens w A n es) (hn:n≤9223372036854775806) (ht:TabAt 0 w) :
  Calls Tryz.prog 194 #[.int .i64 R,.slice A n c] w (BytesPost2 5 (buildE5 R es).1 (buildE5 R es).2 w):=by
 have HTB:Hid (∀ z,Below w.heap.size w z→TabAt 0 z):=Lib.hid fun z hz=>ht.later hz
 have HLE:=Lib.hid hes.len
 have HES:Hid (∀ z,Below w.heap.size w z→Ens z A n es):=Lib.hid fun z hz=>hes.later hz
 clear hes ht
 by_cases hR:R < 1∨16 < R
 case pos =>
  have HP:Hid (buildE5 R es=([],1)):=Lib.hid (by unfold buildE5;rw [if_pos hR])
  have HRR:=Lib.hid hR
  clear hR
  go_enter Tryz.func194,Tryz.ntmps194
  go_wp2_with (go_at_call 107;go_must (refine (begin_no R _ HRR.out).mono ?_);rintro r z1 ⟨rfl,hb⟩;have HB:=Lib.hid hb;clear hb)
  go_loopw [7,8] (fun e i wr=>e = .int .i64 1∧i = .int .i64 0∧Hid (Below w.heap.size w wr)) (fun _ _ _=>0)
  case atStart=>exact ⟨rfl,rfl,HB⟩
  case round =>
   obtain ⟨rfl,rfl,HB2⟩:=hrel
   clear HB
   by_cases h0:0 < n
   ·have hd:decide ((0:Int) < (n:Int))=true:=decide_eq_true (by omega)
    go_wp2_with fail
    go_ret2
    rw [HP.out]
    exact bytes_post2 (n:=0) (own_nil _ _ _ _) HB2.out
   ·have hd:decide ((0:Int) < (n:Int))=false:=decide_eq_false (by omega)
    go_wp2_with fail
    go_ret2
    rw [HP.out]
    exact bytes_post2 (n:=0) (own_nil _ _ _ _) HB2.out
 obtain ⟨r,rfl⟩:∃ r:Nat,R=(r:Int):=⟨R.toNat,by omega⟩
 have hr1:1≤r:=by omega
 have hr2:r≤16:=by omega
 have HPO:Hid ((buildK r [] es).1=0→buildE5 r es=finE r es):=Lib.hid fun h=>by unfold buildE5;rw [if_neg hR,Int.toNat_natCast,if_pos h]
 have HPN:Hid (∀ er,(buildK r [] es).1=er→er ≠ 0→buildE5 r es=([],er)):=Lib.hid fun er h h0=>by unfold buildE5;rw [if_neg hR,Int.toNat_natCast,h,if_neg h0]
 clear hR
 go_enter Tryz.func194,Tryz.ntmps194
 go_wp2_with (go_at_call 107;go_must (refine (begin_ok r _ hr1 hr2).mono ?_);rintro e z1 ⟨g,os,rfl,hB,hX⟩;have HB:=Lib.hid hB;have HX:=Lib.hid hX;clear hB hX)
 go_loopw [7,8] (fun e i wr=>∃ (k:Nat) (er:Int),k≤n∧i = .int .i64 k∧e = .int .i64 er∧Hid (Below w.heap.size w wr)∧Hid (er=0→(buildK r [] (es.take k)).1=0∧∃ os,Bld r (es.take k) g os∧OW w os wr)∧Hid (er ≠ 0→(buildK r [] es).1=er)) (fun _ i _=>n - (intOf i).toNat)
 case atStart=>exact ⟨0,0,Nat.zero_le _,rfl,rfl,Lib.hid HX.out.up,Lib.hid fun _=>⟨rfl,os,HB.out,HX.out⟩,Lib.hid fun h=>absurd rfl h⟩
 case round =>
  obtain ⟨k,er,hk,rfl,rfl,HW,HO,HN⟩:=hrel
  clear HB HX
  by_cases he:er=0
  case neg =>
   have hde:(er == 0)=false:=beq_eq_false_iff_ne.2 he
   have hde2:(er != 0)=true:=bne_iff_ne.2 he
   have HQ:=Lib.hid (HPN.out er (HN.out he) he)
   clear HO HN he
   by_cases hlt:k < n
   ·have hd:decide ((k:Int) < (n:Int))=true:=decide_eq_true (by omega)
    go_wp2_with fail
    go_ret2
    rw [HQ.out]
    exact bytes_post2 (n:=0) (own_nil _ _ _ _) HW.out
   ·have hd:decide ((k:Int) < (n:Int))=false:=decide_eq_false (by omega)
    go_wp2_with fail
    go_ret2
    rw [HQ.out]
    exact bytes_post2 (n:=0) (own_nil _ _ _ _) HW.out
  subst he
  obtain ⟨h1,os,h2,h3⟩:=HO.out rfl
  have HB:=Lib.hid h2
  have HX:=Lib.hid h3
  have HK:=Lib.hid h1
  clear HO HN h1 h2 h3
  by_cases hlt:k < n
  case neg =>
   have hd:decide ((k:Int) < (n:Int))=false:=decide_eq_false (by omega)
   have HT:Hid (es.take k=es):=Lib.hid (take_all (by have:=HLE.out;omega))
   have HQ:Hid (buildE5 r es=finE r (es.take k)):=Lib.hid (by rw [HT.out];exact HPO.out (by have:=HK.out;rwa [HT.out] at this))
   go_wp2_with (go_at_call 110;go_must (refine (finish_any (rest:=[]) HB.out (by rw [List.append_nil];exact HX.out) (HTB.out _ HX.out.up)).mono ?_);rintro e z2 hp;obtain ⟨A2,c2,rfl,ho,hb⟩:=hp;have HO2:=Lib.hid ho;have HB2:=Lib.hid (HX.out.up.trans (hb.mono HX.out.up.size));have HX2:=Lib.hid HX.out.up.size;clear ho hb)
   go_ret2
   rw [HQ.out]
   exact ⟨A2,c2,rfl,own_rebase HO2.out HX2.out,HB2.out⟩
  have hd:decide ((k:Int) < (n:Int))=true:=decide_eq_true (by omega)
  obtain ⟨b,o,Ar,ec,B,d,D,q,e,rfl,hbl,hek,hrg,hen⟩:=(HES.out w (Below.refl _ _)).at_ hlt
  have HST:=Lib.hid (addC_step hek HK.out)
  have HRG:Hid (wr.rangeAt b (o + k * 7) [.slice Ar e.row.length ec,.int .i64 e.fam,.slice B e.qual.length d,.int .i64 e.ts,.int .i64 e.seq,.int .i64 e.kind,.slice D e.val.length q]):=Lib.hid fun j v hj=>(HW.out.cell (p:=⟨b,_,none⟩) hbl).trans (hrg j v hj)
  have HEN:Hid (∀ us z,OW w (us ++ []) z→En z Ar e.row.length ec B e.qual.length d D e.val.length q e):=Lib.hid fun us z hz=>hen.later hz.up
  clear hek hrg hen
  have i1:(0:Int)≤(k:Int):=by omega
  have i2:(k:Int) < (n:Int):=by omega
  go_wp2_with (first
   | (refine wpList_load_at rfl 60 (.tmp 27) rfl rfl HRG.out ent_row5 ?_)
   | (go_at_call 109;go_must (refine (add_any (rest:=[]) HB.out (by rw [List.append_nil];exact HX.out) e Ar _ ec B _ d D _ q HEN.out).mono ?_);rintro e2 z2 ⟨rfl,os2,hb2,hx2⟩;have HB2:=Lib.hid hb2;have HX2:=Lib.hid hx2;clear hb2 hx2))
  go_roundw
  case rel =>
   refine ⟨k + 1,_,by omega,rfl,by go_num,Lib.hid HX2.out.up,Lib.hid fun h=>?_,Lib.hid fun h=>HST.out.2 h⟩
   obtain ⟨e3,e4⟩:=HST.out.1 h
   have h5:=HB2.out
   have h6:=HX2.out
   rw [e3] at h5
   rw [List.append_nil] at h6
   exact ⟨e4,os2,h5,h6⟩
  case measure=>simp [intOf];omega
abbrev ZR:=ER×(Option Addr×Nat×List UInt8)
def rowsZ (z:ZR):RowL:=[(z.1.A,z.1.c,z.1.e.row),(z.1.B,z.1.d,z.1.e.qual),(z.1.D,z.1.q,z.1.e.val),z.2]
def blkO (R g:Nat) (lv kv:Value) (zs:List ZR):List Ob :=
 boxO g [i64v R,lv,kv]::rowO 60 7 lv zs.length (zs.flatMap (·.1.cells))::rowO 34 1 kv zs.length (zs.map (valR ·.2))::(zs.reverse.flatMap rowsZ).map (bytO 5)
def ZOk (zs:List ZR):Prop:=∀ z,z ∈ zs→z.2.2.2=keyE z.1.e∧(keyE z.1.e).length≤1048
def entsZ (zs:List ZR):List Ent:=zs.map (·.1.e)
theorem rowZ_mem {zs:List ZR} {z:ZR} {r:Option Addr×Nat×List UInt8} (hz:z ∈ zs) (hr:r ∈ rowsZ z) {R g:Nat} {lv kv:Value}:bytO 5 r ∈ blkO R g lv kv zs :=
 List.mem_cons_of_mem _ (List.mem_cons_of_mem _ (List.mem_cons_of_mem _ (List.mem_map_of_mem (List.mem_flatMap.2 ⟨z,List.mem_reverse.2 hz,hr⟩))))
set_option maxRecDepth 100000 in
theorem need_any (er:Int) {w x:World} {os:List Ob} {gk:Nat} (i:Nat) (h:OW w os x) (hi:os[i]?=some (boxO gk [.bool true])) :
  Calls Tryz.prog 215 #[.int .i64 er,.pointer (some ⟨gk,0,none⟩)] x fun e y=>e = .returned (.bool (er == 0))∧OW w (os.set i (boxO gk [.bool (er == 0)])) y:=by
 have HX:=Lib.hid h
 have HI:=Lib.hid hi
 clear h hi
 go_enter Tryz.func215,Tryz.ntmps215
 go_wp2_with (first
  | (refine wpList_load_cell rfl 4 (.tmp 1) rfl rfl (show _=some (Value.bool true) from HX.out.cell HI.out (j:=0) rfl) Tryz.isAgg4 ?_)
  | (refine wl_put1 rfl (.tmp 1) (.tmp 8) rfl HX.out i HI.out 0 rfl (by decide) (.bool (er == 0)) rfl (by kernel_rfl) rfl ?_;intro x2 hz _;have HY:Hid (OW w (os.set i (boxO gk [.bool (er == 0)])) x2):=Lib.hid hz;have hc:x2.cell? ⟨gk,0,none⟩=some (.bool (er == 0)):=HY.out.cell (by rw [List.getElem?_set_self (List.getElem?_eq_some_iff.1 HI.out).1]) (j:=0) rfl;clear hz))
 go_ret
 exact ⟨rfl,HY.out⟩
end Go.Proofs.YtfdbcfaeiglbeaaGreatDoor
namespace Go.Proofs.YtfdbcfaeiglbeaaGreatDoor
def longE (i:Nat) (v:List UInt8):Ent:=⟨[114],0,[113],1000 - (i:Int),32,1,v⟩
structure LongI (R i:Nat) (L:List Ent):Prop where
  ok:(buildK R [] L).1=0
  len:L.length≤i
  ne:0 < i→L ≠ []
  last:∀ l,L.getLast?=some l→∃ j v,j < i∧l=longE j v
theorem LongI.zero (R:Nat):LongI R 0 []:=⟨rfl,Nat.le_refl _,fun h=>absurd h (by omega),fun l h=>(by cases h)⟩
theorem size_step5 (R:Nat) (s:BSt) (k v:List UInt8):sizeS (stepB R s k v)=sizeS s + (if s.n % R=0 then 4 else 0) + (rowK (alikeB R s k) k v).length:=by
 have h1:(stepB R s k v).body=s.body ++ rowK (alikeB R s k) k v:=rfl
 have h2:(stepB R s k v).places=placesB R s:=rfl
 unfold sizeS
 rw [h1,h2,List.length_append]
 unfold placesB
 split
 ·rw [List.length_append];show _ + _ + 4 * (_ + 1) + 9=_;omega
 ·omega
end Go.Proofs.YtfdbcfaeiglbeaaGreatDoor
