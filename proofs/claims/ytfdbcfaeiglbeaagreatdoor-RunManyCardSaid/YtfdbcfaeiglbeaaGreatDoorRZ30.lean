/-
 RunW6.
-/
import Derived.Test.YtfdbcfaeiglbeaaGreatDoorRZ27
import Derived.Test.YtfdbcfaeiglbeaaGreatDoorRZ28
import Derived.Test.YtfdbcfaeiglbeaaGreatDoorRZ29
namespace Go.Proofs.YtfdbcfaeiglbeaaGreatDoor
open Go.RowKit
def OpenP7 (b:List UInt8) (w:World) (e:Ending) (z:World):Prop :=
 (∃ q:RunRec,openR7 b=(some q.r,0)∧q.r.bytes=b∧q.Ok∧e = .returned (.tuple #[.pointer (some ⟨q.g,0,none⟩),.int .i64 0])∧OW w q.obs z)∨(∃ k:Int,k ≠ 0∧openR7 b=(none,k)∧e = .returned (.tuple #[.pointer none,.int .i64 k])∧Below w.heap.size w z)
set_option maxRecDepth 100000 in
theorem prefix_any (l p:List UInt8) (A B:Option Addr) (n c m d:Nat) (w:World) (hm:m≤1000000000) (hc:n≤c∧c≤9223372036854775807) (ha:RB w w.heap.size A n l) (hb:RB w w.heap.size B m p) :
  Calls Tryz.prog 67 #[.slice A n c,.slice B m d] w fun e w'=>e = .returned (.bool (decide (m≤n) && (l.take m == p)))∧w=w':=by
 obtain ⟨hc1,hc2⟩:=hc
 by_cases h:m≤n
 case neg =>
  have d1:decide ((n:Int) ≥ (m:Int))=false:=decide_eq_false (by omega)
  have d2:decide (m≤n)=false:=decide_eq_false h
  rw [d2]
  clear h
  go_enter Tryz.func67,Tryz.ntmps67
  go_wp2_with fail
  go_ret
  exact ⟨rfl,rfl⟩
 have d1:decide ((n:Int) ≥ (m:Int))=true:=decide_eq_true (by omega)
 have d2:decide (m≤n)=true:=decide_eq_true h
 have i1:(0:Int)≤(m:Int):=by omega
 have i2:(m:Int)≤(c:Int):=by omega
 have HT:=Lib.hid (ha.take h)
 have HB:=Lib.hid hb
 obtain ⟨bo,hbo⟩:∃ z,z=(l.take m == p):=⟨_,rfl⟩
 have HBO:=Lib.hid hbo.symm
 rw [d2,HBO.out,Bool.true_and]
 clear ha hb hbo
 go_enter Tryz.func67,Tryz.ntmps67
 go_wp2_with (go_at_call 87;go_must (refine (equal_any (l.take m) p A B m c m d _ HT.out HB.out).mono ?_);rw [HBO.out];rintro e y ⟨rfl,rfl⟩)
 go_ret
 exact ⟨rfl,rfl⟩
theorem ownB_some {T:TypeId} {base:Nat} {w:World} {A:Option Addr} {c:Nat} {l:List UInt8} (h:OwnB T base w A c l) (hl:0 < l.length):∃ g,A=some ⟨g,0,none⟩∧base≤g∧g < w.heap.size:=by
 obtain ⟨g,cap,e,h1,h2,_⟩:=own_form h hl
 injection e with e _ _
 exact ⟨g,e,h1,h2⟩
theorem mag_rb (W:World):RB (W.alloc magObj) (W.alloc magObj).heap.size (some ⟨W.heap.size,0,none⟩) 8 magR:=(reads_lit W magC magR 5 (8,9) rfl).more (by simp)
theorem numC_vals (f:List UInt8):numC f 7=[.int .i64 (numAt f 0),.int .i64 (numAt f 1),.int .i64 (numAt f 2),.int .i64 (numAt f 3),.int .i64 (numAt f 4),.int .i64 (numAt f 5),.int .i64 (numAt f 6)]:=rfl
theorem numOk_lt {f:List UInt8} {i:Nat} (h:numOk f i=true):numAt f i < 9223372036854775808:=by
 unfold numOk at h
 unfold numAt
 exact (readR_end f _ (of_decide_eq_true h)).2.2.2.2
theorem numbers_no {b:List UInt8} {A:Option Addr} {n c:Nat} {w:World} (hs:Sl w A n c b) (hn:n≤100000000) (ht:TabAt 0 w) (h:numsO b=none) :
  Calls Tryz.prog 66 #[.slice A n c] w fun e z=>∃ vs:List Value,vs.length=7∧(∀ u ∈ vs,u.oneCell'=true)∧e = .returned (.tuple #[.agg vs.toArray,.bool false])∧Below w.heap.size w z :=
 (numbers_any b A n c w hs hn ht).mono fun e z hp=>by
  rcases hp with ⟨f,h1,h2,_,_⟩ | ⟨_,⟨vs,h1,h5,h2⟩,h3⟩
  ·unfold numsO at h
   rw [h1] at h
   dsimp only at h
   rw [if_pos h2] at h
   cases h
  ·exact ⟨vs,h1,h5,h2,h3⟩
theorem numbers_yes {b f:List UInt8} {A:Option Addr} {n c:Nat} {w:World} (hs:Sl w A n c b) (hn:n≤100000000) (ht:TabAt 0 w) (h:footO b=some f) (ha:allOk f=true) :
  Calls Tryz.prog 66 #[.slice A n c] w fun e z=>e = .returned (.tuple #[.agg (numC f 7).toArray,.bool true])∧Below w.heap.size w z :=
 (numbers_any b A n c w hs hn ht).mono fun e z hp=>by
  rcases hp with ⟨f',h1,_,h3,h4⟩ | ⟨h1,_,_⟩
  ·rw [h] at h1;injection h1 with h1;subst h1;exact ⟨h3,h4⟩
  ·unfold numsO at h1
   rw [h] at h1
   dsimp only at h1
   rw [if_pos ha] at h1
   cases h1
theorem nums_cases (b:List UInt8):numsO b=none∨∃ f,footO b=some f∧allOk f=true:=by
 cases hf:footO b with
 | none=>exact .inl (nums_no1 hf)
 | some f =>
  cases ha:allOk f with
  | true=>exact .inr ⟨f,rfl,ha⟩
  | false=>exact .inl (by unfold numsO;rw [hf];dsimp only;rw [ha];rfl)
theorem index_no {x:List UInt8} {N end':Nat} {A:Option Addr} {n c:Nat} {w:World} (hs:Sl w A n c x) (hn:n≤100000000) (hN:N≤100000000) (he8:8≤end'∧end'≤100000000) (room:Int) (hroom:room=(end':Int) - 8) (h:pcsO x N end'=none) :
  Calls Tryz.prog 72 #[.slice A n c,.int .i64 N,.int .i64 room] w fun e z=>(∃ A m c,e = .returned (.tuple #[.slice A m c,.bool false]))∧Below w.heap.size w z :=
 (index_any x N end' A n c w hs hn hN he8 room (by omega)).mono fun e z hp=>by
  rcases hp with ⟨l,_,_,_,_,h1,_⟩ | ⟨_,h2,h3⟩
  ·rw [h] at h1;cases h1
  ·exact ⟨h2,h3⟩
theorem index_yes {x:List UInt8} {N end':Nat} {l:List PcR} {A:Option Addr} {n c:Nat} {w:World} (hs:Sl w A n c x) (hn:n≤100000000) (hN:N≤100000000) (he8:8≤end'∧end'≤100000000) (room:Int) (hroom:room=(end':Int) - 8) (h:pcsO x N end'=some l) (hN1:1≤N) :
  Calls Tryz.prog 72 #[.slice A n c,.int .i64 N,.int .i64 room] w fun e z=>∃ (g c:Nat) (rs:List PRec),e = .returned (.tuple #[.slice (some ⟨g,0,none⟩) N c,.bool true])∧rs.map PRec.p=l∧N=rs.length∧OW w (rowO 137 4 (.slice (some ⟨g,0,none⟩) N c) N (rs.flatMap PRec.cells)::rs.flatMap PRec.obs) z :=
 (index_any x N end' A n c w hs hn hN he8 room (by omega)).mono fun e z hp=>by
  rcases hp with ⟨l',A',m',c',rs,h1,h2,h3,h4,h5⟩ | ⟨h1,_,_⟩
  ·rw [h] at h1
   injection h1 with h1
   subst h1
   have hl:rs.length=N:=by
    have:=(pcsO_len h).1
    rw [← h3,List.length_map] at this
    exact this
   rw [hl] at h4
   subst h4
   obtain ⟨g,cap,e1,_,_,_⟩:=own_form (h5.row (i:=0) rfl) (by omega)
   injection e1 with e1 _ e2
   subst e1
   exact ⟨g,c',rs,h2,h3,hl.symm,h5⟩
  ·rw [h] at h1;cases h1
theorem foot_len {b f:List UInt8} (h:footO b=some f):68≤b.length:=by
 unfold footO at h
 split at h
 ·cases h
 ·omega
set_option maxRecDepth 10000000 in
set_option maxHeartbeats 16000000 in
theorem open_any7 (b:List UInt8) (A:Option Addr) (n c:Nat) (w:World) (hs:Sl w A n c b) (ht:TabAt 0 w) :
  Calls Tryz.prog 17 #[.slice A n c] w (OpenP7 b w):=by
 have HS:Hid (∀ z,Below w.heap.size w z→Sl z A n c b):=Lib.hid fun z hz=>hs.later hz
 have HTB:Hid (∀ z,Below w.heap.size w z→TabAt 0 z):=Lib.hid fun z hz=>ht.later hz
 have HL:Hid (b.length=n):=Lib.hid hs.len
 have HX:=Lib.hid (OW.nil w)
 have HCC:Hid (n≤c∧c≤9223372036854775807):=Lib.hid ⟨hs.cap,hs.lim⟩
 have HCN:Hid (A=none→c=0):=Lib.hid hs.nil
 clear hs ht
 by_cases hbig:16777216 < n
 case pos =>
  have d0:decide ((n:Int) > 16777216)=true:=decide_eq_true (by omega)
  have d1:decide (16777216 < n)=true:=decide_eq_true hbig
  have HN:=Lib.hid (openR_long (b:=b) (by rw [HL.out];exact hbig))
  go_enter Tryz.func17,Tryz.ntmps17
  go_wp2_with fail
  go_ret2
  exact .inr ⟨2,by decide,HN.out,rfl,HX.out.up⟩
 have d0:decide ((n:Int) > 16777216)=false:=decide_eq_false (by omega)
 have d1:decide (16777216 < n)=false:=decide_eq_false hbig
 have hn9:n≤16777216:=by omega
 have HNO:Hid (openP b=none→openR7 b=(none,72)):=Lib.hid fun h=>openR_none (by rw [HL.out];exact hn9) h
 have HYES:Hid (∀ r,openP b=some r→openR7 b=(some r,0)):=Lib.hid fun r h=>openR_some (by rw [HL.out];exact hn9) h
 clear hbig
 go_enter Tryz.func17,Tryz.ntmps17
 rcases nums_cases b with hno | ⟨f,hf,hall⟩
 ·have HN:=Lib.hid (HNO.out (openP_no hno))
  have HNS:=Lib.hid hno
  clear hno
  go_wp2_with (first
   | (go_at_call 66;go_must (refine (numbers_no (HS.out _ (Below.refl _ _)) (by omega) (HTB.out _ (Below.refl _ _)) HNS.out).mono ?_);rintro e x1 ⟨vs,hvl,hvo,rfl,hb⟩;have HVL:=Lib.hid hvl;have HVO:=Lib.hid hvo;have HX1:=Lib.hid (HX.out.later hb);clear hb hvl hvo HX)
   | (refine wl_alloc rfl rfl [.int .i64 0,.int .i64 0,.int .i64 0,.int .i64 0,.int .i64 0,.int .i64 0,.int .i64 0] (.inl (by kernel_rfl)) HX1.out ?_;intro g4 x2 hz _;have HX2:Hid (OW w [boxO g4 [.int .i64 0,.int .i64 0,.int .i64 0,.int .i64 0,.int .i64 0,.int .i64 0,.int .i64 0]] x2):=Lib.hid hz;clear hz HX1)
   | (refine wl_put rfl (.tmp 4) (.tmp 23) rfl HX2.out 0 rfl rfl vs rfl (by rw [HVL.out];rfl) (by rw [HVL.out];kernel_rfl) HVO.out ?_;intro x3 hz _;have HX3:Hid (Below w.heap.size w x3):=Lib.hid hz.up;clear hz HX2))
  go_ret2
  exact .inr ⟨72,by decide,HN.out,rfl,HX3.out⟩
 have HOP:Hid (b.take 8=magR→openP b=openN b [numAt f 0,numAt f 1,numAt f 2,numAt f 3,numAt f 4,numAt f 5,numAt f 6]):=Lib.hid fun h=>openP_is h hf hall
 have hn68:68≤n:=by have:=foot_len hf;rw [HL.out] at this;exact this
 have HBD:Hid (∀ i,i < 7→numAt f i < 9223372036854775808):=Lib.hid fun i hi=>numOk_lt (by unfold allOk at hall;rw [List.all_eq_true] at hall;exact hall i (List.mem_range.2 hi))
 have HF:=Lib.hid hf
 have HAL:=Lib.hid hall
 clear hf hall
 obtain ⟨q0,hq0⟩:∃ z,z=numAt f 0:=⟨_,rfl⟩
 have HQ0:=Lib.hid hq0.symm
 have hqb0:q0 < 9223372036854775808:=by rw [hq0];exact HBD.out 0 (by decide)
 obtain ⟨q1,hq1⟩:∃ z,z=numAt f 1:=⟨_,rfl⟩
 have HQ1:=Lib.hid hq1.symm
 have hqb1:q1 < 9223372036854775808:=by rw [hq1];exact HBD.out 1 (by decide)
 obtain ⟨q2,hq2⟩:∃ z,z=numAt f 2:=⟨_,rfl⟩
 have HQ2:=Lib.hid hq2.symm
 have hqb2:q2 < 9223372036854775808:=by rw [hq2];exact HBD.out 2 (by decide)
 obtain ⟨q3,hq3⟩:∃ z,z=numAt f 3:=⟨_,rfl⟩
 have HQ3:=Lib.hid hq3.symm
 have hqb3:q3 < 9223372036854775808:=by rw [hq3];exact HBD.out 3 (by decide)
 obtain ⟨q4,hq4⟩:∃ z,z=numAt f 4:=⟨_,rfl⟩
 have HQ4:=Lib.hid hq4.symm
 have hqb4:q4 < 9223372036854775808:=by rw [hq4];exact HBD.out 4 (by decide)
 obtain ⟨q5,hq5⟩:∃ z,z=numAt f 5:=⟨_,rfl⟩
 have HQ5:=Lib.hid hq5.symm
 have hqb5:q5 < 9223372036854775808:=by rw [hq5];exact HBD.out 5 (by decide)
 obtain ⟨q6,hq6⟩:∃ z,z=numAt f 6:=⟨_,rfl⟩
 have HQ6:=Lib.hid hq6.symm
 have hqb6:q6 < 9223372036854775808:=by rw [hq6];exact HBD.out 6 (by decide)
 clear hq0 hq1 hq2 hq3 hq4 hq5 hq6
 have HNC:Hid (numC f 7=[.int .i64 q0,.int .i64 q1,.int .i64 q2,.int .i64 q3,.int .i64 q4,.int .i64 q5,.int .i64 q6]):=Lib.hid (by rw [numC_vals,HQ0.out,HQ1.out,HQ2.out,HQ3.out,HQ4.out,HQ5.out,HQ6.out])
 have kc:=conv_mag
 obtain ⟨pb,hpb⟩:∃ z,z=(b.take 8 == magR):=⟨_,rfl⟩
 have HPB:Hid ((decide (8≤n) && (b.take 8 == magR))=pb):=Lib.hid (by rw [hpb,decide_eq_true (by omega),Bool.true_and])
 have HPB2:=Lib.hid hpb
 clear hpb
 go_upto_if 33 with (first
  | (go_at_call 66;go_must (refine (numbers_yes (HS.out _ (Below.refl _ _)) (by omega) (HTB.out _ (Below.refl _ _)) HF.out HAL.out).mono ?_);rw [HNC.out];rintro e x1 ⟨rfl,hb⟩;have HX1:=Lib.hid (HX.out.later hb);clear hb HX)
  | (refine wl_alloc rfl rfl [.int .i64 0,.int .i64 0,.int .i64 0,.int .i64 0,.int .i64 0,.int .i64 0,.int .i64 0] (.inl (by kernel_rfl)) HX1.out ?_;intro g4 x2 hz _;have HX2:Hid (OW w [boxO g4 [.int .i64 0,.int .i64 0,.int .i64 0,.int .i64 0,.int .i64 0,.int .i64 0,.int .i64 0]] x2):=Lib.hid hz;clear hz HX1)
  | (refine wl_put rfl (.tmp 4) (.tmp 23) rfl HX2.out 0 rfl rfl [.int .i64 q0,.int .i64 q1,.int .i64 q2,.int .i64 q3,.int .i64 q4,.int .i64 q5,.int .i64 q6] rfl rfl (by kernel_rfl) (by simp [Value.oneCell']) ?_;intro x3 hz _;have HX3:Hid (OW w [boxO g4 [.int .i64 q0,.int .i64 q1,.int .i64 q2,.int .i64 q3,.int .i64 q4,.int .i64 q5,.int .i64 q6]] x3):=Lib.hid hz;clear hz HX2)
  | (go_at_call 67;go_must (refine (prefix_any b magR A _ n c 8 8 _ (by omega) HCC.out (HS.out _ (HX3.out.al magObj).up).rb (mag_rb _)).mono ?_);rw [HPB.out];rintro e y ⟨rfl,rfl⟩;have HX4:=Lib.hid (HX3.out.al magObj)))
 clear kc
 cases pb with
 | false =>
  have HN:=Lib.hid (HNO.out (openP_pre (by intro h;have:=HPB2.out;rw [h,beq_self_eq_true] at this;cases this)))
  go_wp2_with fail
  go_ret2
  exact .inr ⟨72,by decide,HN.out,rfl,HX4.out.up⟩
 | true =>
 have HOPN:Hid (openP b=openN b [q0,q1,q2,q3,q4,q5,q6]):=Lib.hid (by rw [HOP.out (beq_iff_eq.1 HPB2.out.symm),HQ0.out,HQ1.out,HQ2.out,HQ3.out,HQ4.out,HQ5.out,HQ6.out])
 clear HPB HPB2 HOP HF HAL HX3
 obtain ⟨x5,hx5⟩:∃ z,z=x3.alloc magObj:=⟨_,rfl⟩
 rw [← hx5] at HX4 ⊢
 clear hx5
 have s0:IntKind.i64.wrap ((n:Int) - 68)=(n:Int) - 68:=i64_sum (by omega) (by omega)
 have s1:IntKind.i64.wrap ((q6:Int) - (q5:Int))=(q6:Int) - (q5:Int):=i64_sum (by omega) (by omega)
 have s2:IntKind.i64.wrap ((n:Int) - 68 - (q6:Int))=(n:Int) - 68 - (q6:Int):=i64_sum (by omega) (by omega)
 go_upto_region 6 with fail
 refine lt_start [] (by kernel_rfl) ?_
 intro xd hd
 refine ⟨fun z=>OW w [boxO g4 [.int .i64 q0,.int .i64 q1,.int .i64 q2,.int .i64 q3,.int .i64 q4,.int .i64 q5,.int .i64 q6]] z,?_⟩
 have HS:=Lib.hid (HX4.out.later hd)
 refine lt_pure 0 rfl (by kernel_rfl) (by kernel_rfl) (by kernel_rfl) (by kernel_rfl) (fun _ _ _ h=>h) (v := .pointer (some ⟨g4,0,none⟩)) (yi_run rfl (fun w=>by kernel_rfl)) (fun _=>HS.out) ?_
 simp only [Act.put,ls]
 refine lq 1 [11,12,13,14,15] rfl (yi_cell rfl rfl rfl (fun w hS=>OW.cell hS (i:=0) (j:=0) rfl rfl) Tryz.isAgg3) HS.out ?_
 simp only [Act.put,ls]
 refine lt_pure 2 rfl (by kernel_rfl) (by kernel_rfl) (by kernel_rfl) (by kernel_rfl) (fun _ _ _ h=>h) (v := .pointer (some ⟨g4,4,none⟩)) (yi_run rfl (fun w=>by kernel_rfl)) (fun _=>HS.out) ?_
 simp only [Act.put,ls]
 refine lq 3 [12,13,14,15] rfl (yi_cell rfl rfl rfl (fun w hS=>OW.cell hS (i:=0) (j:=4) rfl rfl) Tryz.isAgg3) HS.out ?_
 simp only [Act.put,ls]
 refine lt_pure 4 rfl (by kernel_rfl) (by kernel_rfl) (by kernel_rfl) (by kernel_rfl) (fun _ _ _ h=>h) (v := .pointer (some ⟨g4,5,none⟩)) (yi_run rfl (fun w=>by kernel_rfl)) (fun _=>HS.out) ?_
 simp only [Act.put,ls]
 refine lq 5 [13,14,15] rfl (yi_cell rfl rfl rfl (fun w hS=>OW.cell hS (i:=0) (j:=5) rfl rfl) Tryz.isAgg3) HS.out ?_
 simp only [Act.put,ls]
 refine lt_pure 6 rfl (by kernel_rfl) (by kernel_rfl) (by kernel_rfl) (by kernel_rfl) (fun _ _ _ h=>h) (v := .pointer (some ⟨g4,6,none⟩)) (yi_run rfl (fun w=>by kernel_rfl)) (fun _=>HS.out) ?_
 simp only [Act.put,ls]
 refine lq 7 [14,15] rfl (yi_cell rfl rfl rfl (fun w hS=>OW.cell hS (i:=0) (j:=6) rfl rfl) Tryz.isAgg3) HS.out ?_
 simp only [Act.put,ls]
 refine lp2 8 rfl (fun _=>HS.out) ?_
 simp only [Act.put,ls]
 refine lp2 9 rfl (fun _=>HS.out) ?_
 simp only [Act.put,ls]
 refine lp2 10 rfl (fun _=>HS.out) ?_
 simp only [Act.put,ls]
 refine lp2 11 rfl (fun _=>HS.out) ?_
 simp only [Act.put,ls]
 refine lp2 12 rfl (fun _=>HS.out) ?_
 simp only [Act.put,ls]
 refine lp2 13 rfl (fun _=>HS.out) ?_
 simp only [Act.put,ls]
 refine lp2 14 rfl (fun _=>HS.out) ?_
 simp only [Act.put,ls]
 refine lp2 15 rfl (fun _=>HS.out) ?_
 simp only [Act.put,ls]
 refine lt_done (by kernel_rfl) ?_
 have HX6:=Lib.hid HS.out
 clear HS
 obtain ⟨se,hse⟩:∃ z,z=sealI (q1:Int) (q2:Int) (q3:Int):=⟨_,rfl⟩
 have HSE:=Lib.hid hse.symm
 clear hse
 go_upto_region 7 with fail
 go_step
 refine wl_idxA rfl 127 (.tmp 4) (.const (.int .i64 1)) rfl (idxA7 g4 1 (by decide) _) ?_
 simp only [Act.put,ls]
 refine wpList_load_cell rfl 3 (.tmp 45) rfl rfl (HX6.out.cell (i:=0) (j:=1) rfl rfl) Tryz.isAgg3 ?_
 simp only [Act.put,ls]
 refine wl_idxA rfl 127 (.tmp 4) (.const (.int .i64 2)) rfl (idxA7 g4 2 (by decide) _) ?_
 simp only [Act.put,ls]
 refine wpList_load_cell rfl 3 (.tmp 47) rfl rfl (HX6.out.cell (i:=0) (j:=2) rfl rfl) Tryz.isAgg3 ?_
 simp only [Act.put,ls]
 refine wl_idxA rfl 127 (.tmp 4) (.const (.int .i64 3)) rfl (idxA7 g4 3 (by decide) _) ?_
 simp only [Act.put,ls]
 refine wpList_load_cell rfl 3 (.tmp 49) rfl rfl (HX6.out.cell (i:=0) (j:=3) rfl rfl) Tryz.isAgg3 ?_
 simp only [Act.put,ls]
 cases se with
 | false =>
  have HN:Hid (openR7 b=(none,72)):=Lib.hid (HNO.out (by rw [HOPN.out,openN_is,if_pos (.inl HSE.out)]))
  go_wp2_with (go_at_call 68;go_must (refine (rsealed_any _ _ _ _).mono ?_);rw [HSE.out];rintro e y ⟨rfl,rfl⟩)
  go_ret2
  exact .inr ⟨72,by decide,HN.out,rfl,HX6.out.up⟩
 | true =>
 by_cases hc:q4 < 1
 case pos =>
  have d2:decide ((q4:Int) < 1)=true:=decide_eq_true (by omega)
  have e2:decide (q4 < 1)=true:=decide_eq_true hc
  have HN:Hid (openR7 b=(none,72)):=Lib.hid (HNO.out (by rw [HOPN.out,openN_is,if_pos (.inr (.inl hc))]))
  go_wp2_with (go_at_call 68;go_must (refine (rsealed_any _ _ _ _).mono ?_);rw [HSE.out];rintro e y ⟨rfl,rfl⟩)
  go_ret2
  exact .inr ⟨72,by decide,HN.out,rfl,HX6.out.up⟩
 have d2:decide ((q4:Int) < 1)=false:=decide_eq_false (by omega)
 have e2:decide (q4 < 1)=false:=decide_eq_false hc
 have hk0:=hc
 clear hc
 by_cases hc:q0 < q4
 case pos =>
  have d3:decide ((q0:Int) < (q4:Int))=true:=decide_eq_true (by omega)
  have e3:decide (q0 < q4)=true:=decide_eq_true hc
  have HN:Hid (openR7 b=(none,72)):=Lib.hid (HNO.out (by rw [HOPN.out,openN_is,if_pos (.inr (.inr hc))]))
  go_wp2_with (go_at_call 68;go_must (refine (rsealed_any _ _ _ _).mono ?_);rw [HSE.out];rintro e y ⟨rfl,rfl⟩)
  go_ret2
  exact .inr ⟨72,by decide,HN.out,rfl,HX6.out.up⟩
 have d3:decide ((q0:Int) < (q4:Int))=false:=decide_eq_false (by omega)
 have e3:decide (q0 < q4)=false:=decide_eq_false hc
 have hk1:=hc
 clear hc
 by_cases hc:n < q4
 case pos =>
  have d4:decide ((q4:Int) > (n:Int))=true:=decide_eq_true (by omega)
  have e4:decide (n < q4)=true:=decide_eq_true hc
  have HN:Hid (openR7 b=(none,72)):=Lib.hid (HNO.out (by rw [HOPN.out,openN_many (by rw [HL.out];exact hc)]))
  go_wp2_with (go_at_call 68;go_must (refine (rsealed_any _ _ _ _).mono ?_);rw [HSE.out];rintro e y ⟨rfl,rfl⟩)
  go_ret2
  exact .inr ⟨72,by decide,HN.out,rfl,HX6.out.up⟩
 have d4:decide ((q4:Int) > (n:Int))=false:=decide_eq_false (by omega)
 have e4:decide (n < q4)=false:=decide_eq_false hc
 have hk2:=hc
 clear hc
 have HOP2:Hid (openP b=if q5 < 8∨q6 < q5 + 4∨n < q6 + 72 then none else if unsB (cutS b q5 (q6 - q5))=false∨unsB (cutS b q6 (n - 68 - q6))=false then none else if cutS b q5 (q6 - q5 - 4) ≠ []∧isF (cutS b q5 (q6 - q5 - 4))=false then none else match pcsO (cutS b q6 (n - 72 - q6)) q4 q5 with | none=>none | some l=>some ⟨b,q0,q1,q2,q3,cutS b q5 (q6 - q5 - 4),l⟩):=Lib.hid (by rw [HOPN.out,openN_is,if_neg (by rintro (h | h | h);rw [HSE.out] at h;cases h;omega;omega),HL.out];rfl)
 go_upto_region 9 with (go_at_call 68;go_must (refine (rsealed_any _ _ _ _).mono ?_);rw [HSE.out];rintro e y ⟨rfl,rfl⟩)
 by_cases hc:q5 < 8
 case pos =>
  have d5:decide ((q5:Int) < 8)=true:=decide_eq_true (by omega)
  have hci:(q5:Int) < 8:=by omega
  have HN:Hid (openR7 b=(none,72)):=Lib.hid (HNO.out (by rw [HOP2.out,if_pos (by omega)]))
  clear hc
  go_wp2_with fail
  go_ret2
  exact .inr ⟨72,by decide,HN.out,rfl,HX6.out.up⟩
 have d5:decide ((q5:Int) < 8)=false:=decide_eq_false (by omega)
 have hj0:¬ ((q5:Int) < 8):=by omega
 clear hc
 by_cases hc:n < q5 + 68
 case pos =>
  have d6:decide ((q5:Int) > (n:Int) - 68)=true:=decide_eq_true (by omega)
  have hci:(q5:Int) > (n:Int) - 68:=by omega
  have HN:Hid (openR7 b=(none,72)):=Lib.hid (HNO.out (by rw [HOP2.out,if_pos (by omega)]))
  clear hc
  go_wp2_with fail
  go_ret2
  exact .inr ⟨72,by decide,HN.out,rfl,HX6.out.up⟩
 have d6:decide ((q5:Int) > (n:Int) - 68)=false:=decide_eq_false (by omega)
 have hj1:¬ ((q5:Int) > (n:Int) - 68):=by omega
 clear hc
 by_cases hc:n < q6 + 68
 case pos =>
  have d7:decide ((q6:Int) > (n:Int) - 68)=true:=decide_eq_true (by omega)
  have hci:(q6:Int) > (n:Int) - 68:=by omega
  have HN:Hid (openR7 b=(none,72)):=Lib.hid (HNO.out (by rw [HOP2.out,if_pos (by omega)]))
  clear hc
  go_wp2_with fail
  go_ret2
  exact .inr ⟨72,by decide,HN.out,rfl,HX6.out.up⟩
 have d7:decide ((q6:Int) > (n:Int) - 68)=false:=decide_eq_false (by omega)
 have hj2:¬ ((q6:Int) > (n:Int) - 68):=by omega
 clear hc
 by_cases hc:q6 < q5 + 4
 case pos =>
  have d8:decide ((q6:Int) - (q5:Int) < 4)=true:=decide_eq_true (by omega)
  have hci:(q6:Int) - (q5:Int) < 4:=by omega
  have HN:Hid (openR7 b=(none,72)):=Lib.hid (HNO.out (by rw [HOP2.out,if_pos (by omega)]))
  clear hc
  go_wp2_with fail
  go_ret2
  exact .inr ⟨72,by decide,HN.out,rfl,HX6.out.up⟩
 have d8:decide ((q6:Int) - (q5:Int) < 4)=false:=decide_eq_false (by omega)
 have hj3:¬ ((q6:Int) - (q5:Int) < 4):=by omega
 clear hc
 by_cases hc:n < q6 + 72
 case pos =>
  have d9:decide ((n:Int) - 68 - (q6:Int) < 4)=true:=decide_eq_true (by omega)
  have hci:(n:Int) - 68 - (q6:Int) < 4:=by omega
  have HN:Hid (openR7 b=(none,72)):=Lib.hid (HNO.out (by rw [HOP2.out,if_pos (by omega)]))
  clear hc
  go_wp2_with fail
  go_ret2
  exact .inr ⟨72,by decide,HN.out,rfl,HX6.out.up⟩
 have d9:decide ((n:Int) - 68 - (q6:Int) < 4)=false:=decide_eq_false (by omega)
 have hj4:¬ ((n:Int) - 68 - (q6:Int) < 4):=by omega
 clear hc
 have HOP3:Hid (openP b=if unsB (cutS b q5 (q6 - q5))=false∨unsB (cutS b q6 (n - 68 - q6))=false then none else if cutS b q5 (q6 - q5 - 4) ≠ []∧isF (cutS b q5 (q6 - q5 - 4))=false then none else match pcsO (cutS b q6 (n - 72 - q6)) q4 q5 with | none=>none | some l=>some ⟨b,q0,q1,q2,q3,cutS b q5 (q6 - q5 - 4),l⟩):=Lib.hid (by rw [HOP2.out,if_neg (by omega)])
 clear HOP2 HOPN
 have h8:8≤q5:=by omega
 have h4G:q5 + 4≤q6:=by omega
 have h4H:q6 + 72≤n:=by omega
 have h40:1≤q4∧q4≤n:=by omega
 go_upto_region 11 with fail
 clear d2 e2 d3 e3 d4 e4 hk0 hk1 hk2 d5 d6 d7 d8 d9 hj0 hj1 hj2 hj3 hj4 s0 s1 s2 HX4
 obtain ⟨G,rfl⟩:∃ G,q6=q5 + G:=⟨q6 - q5,by omega⟩
 obtain ⟨H,rfl⟩:∃ H,n=q5 + G + H + 68:=⟨n - 68 - (q5 + G),by omega⟩
 have hG4:4≤G:=by omega
 have hH4:4≤H:=by omega
 clear h4G h4H
 rw [show (((q5 + G + H + 68:Nat):Int)) - 68=((q5 + G + H:Nat):Int) from by omega]
 rw [show q5 + G - q5=G from by omega,show q5 + G + H + 68 - 68 - (q5 + G)=H from by omega,show q5 + G + H + 68 - 72 - (q5 + G)=H - 4 from by omega] at HOP3
 go_upto_region 12 with (go_at_call 69;go_loud (go_must (refine (clone_any b A _ c _ (by omega) HCN.out (HS.out _ HX6.out.up).rb).mono ?_);rintro e x7 hp;obtain ⟨A2,c2,rfl,hs2,ho,hb⟩:=hp.at_ (n:=q5 + G + H + 68) HL.out;have HX7:=Lib.hid (HX6.out.app (OW.byt1 hb ho));obtain ⟨gb,rfl,_,_⟩:=ownB_some ho (by rw [HL.out];omega);have HCC2:Hid (q5 + G + H + 68≤c2∧c2≤9223372036854775807):=Lib.hid ⟨hs2.cap,hs2.lim⟩;clear hp hs2 ho hb))
 obtain ⟨hcc1,hcc2⟩:=HCC2.out
 have i1:(0:Int)≤(q5:Int):=by omega
 have i2:(q5:Int)≤(q5:Int) + (G:Int):=by omega
 have i3:(q5:Int) + (G:Int)≤(c2:Int):=by omega
 have i4:(0:Int)≤(q5:Int) + (G:Int):=by omega
 have i5:(q5:Int) + (G:Int)≤(q5:Int) + (G:Int) + (H:Int):=by omega
 have i6:(q5:Int) + (G:Int) + (H:Int)≤(c2:Int):=by omega
 have i7:¬ c2=q5:=by omega
 have i8:¬ c2=q5 + G:=by omega
 have HC1:Hid (∀ z,Below x7.heap.size x7 z→Sl z (some ⟨gb,q5,none⟩) G (c2 - q5) (cutS b q5 G)):=Lib.hid fun z hz=>by
  have h:=((HX7.out.sl (i:=1) rfl HL.out).cut (lo:=q5) (hi:=q5 + G) (by omega) (by omega) (by omega)).later hz
  rw [show q5 + G - q5=G from by omega,Option.map_some,show (⟨gb,0,none⟩:Addr).add q5=⟨gb,q5,none⟩ from by simp [Addr.add];omega] at h
  exact h
 have HC2:Hid (∀ z,Below x7.heap.size x7 z→Sl z (some ⟨gb,q5 + G,none⟩) H (c2 - (q5 + G)) (cutS b (q5 + G) H)):=Lib.hid fun z hz=>by
  have h:=((HX7.out.sl (i:=1) rfl HL.out).cut (lo:=q5 + G) (hi:=q5 + G + H) (by omega) (by omega) (by omega)).later hz
  rw [show q5 + G + H - (q5 + G)=H from by omega,Option.map_some,show (⟨gb,0,none⟩:Addr).add (q5 + G)=⟨gb,q5 + G,none⟩ from by simp [Addr.add];omega] at h
  exact h
 have HTB7:Hid (∀ z,Below x7.heap.size x7 z→TabAt 0 z):=Lib.hid fun z hz=>(HTB.out _ HX7.out.up).later hz
 obtain ⟨u1,hu1⟩:∃ z,z=unsB (cutS b q5 G):=⟨_,rfl⟩
 obtain ⟨u2,hu2⟩:∃ z,z=unsB (cutS b (q5 + G) H):=⟨_,rfl⟩
 have HU1:=Lib.hid hu1.symm
 have HU2:=Lib.hid hu2.symm
 clear hu1 hu2
 go_upto_region 14 with (first
  | (go_at_call_of 70 (Value.slice (some ⟨gb,q5,none⟩) G (c2 - q5));go_must (refine (unsummed_any (cutS b q5 G) _ _ _ _ (HC1.out _ (Below.refl _ _)) (by omega) (HTB7.out _ (Below.refl _ _))).mono ?_);rw [HU1.out];rintro e x8 ⟨rfl,hb⟩;have HX8:=Lib.hid hb;clear hb)
  | (go_at_call 70;go_must (refine (unsummed_any (cutS b (q5 + G) H) _ _ _ _ (HC2.out _ HX8.out) (by omega) (HTB7.out _ HX8.out)).mono ?_);rw [HU2.out];rintro e x9 ⟨rfl,hb⟩;have HX9:Hid (Below x7.heap.size x7 x9):=Lib.hid (HX8.out.trans (hb.mono HX8.out.size));clear hb HX8))
 clear i1 i2 i3 i4 i5 i6 i7 i8
 obtain ⟨m,hm⟩:∃ m,m=G - 4:=⟨_,rfl⟩
 obtain ⟨k,hk⟩:∃ k,k=H - 4:=⟨_,rfl⟩
 rw [← hm,← hk]
 rw [HU1.out,HU2.out,← hm,← hk] at HOP3
 have HCF:Hid (∀ z,Below x7.heap.size x7 z→Sl z (some ⟨gb,q5,none⟩) m (c2 - q5) (cutS b q5 m)):=Lib.hid fun z hz=>by
  have h:=(HC1.out z hz).take (m:=m) (by omega)
  rw [show (cutS b q5 G).take m=cutS b q5 m from by unfold cutS;rw [List.take_take,Nat.min_eq_left (by omega)]] at h
  exact h
 have HCK:Hid (∀ z,Below x7.heap.size x7 z→Sl z (some ⟨gb,q5 + G,none⟩) k (c2 - (q5 + G)) (cutS b (q5 + G) k)):=Lib.hid fun z hz=>by
  have h:=(HC2.out z hz).take (m:=k) (by omega)
  rw [show (cutS b (q5 + G) H).take k=cutS b (q5 + G) k from by unfold cutS;rw [List.take_take,Nat.min_eq_left (by omega)]] at h
  exact h
 have HMG:Hid (m + 4=G∧k + 4=H):=Lib.hid ⟨by omega,by omega⟩
 have hmb:m≤16777216∧k≤16777216:=⟨by omega,by omega⟩
 clear hm hk HC1 HC2 HU1 HU2
 obtain ⟨fl,hfl⟩:∃ z,z=cutS b q5 m:=⟨_,rfl⟩
 obtain ⟨ix,hix⟩:∃ z,z=cutS b (q5 + G) k:=⟨_,rfl⟩
 rw [← hfl,← hix] at HOP3
 rw [← hfl] at HCF
 rw [← hix] at HCK
 have HFL:=Lib.hid hfl
 clear hfl hix
 cases u1 with
 | false =>
  have HN:Hid (openR7 b=(none,72)):=Lib.hid (HNO.out (by rw [HOP3.out,if_pos (.inl rfl)]))
  go_wp2_with fail
  go_ret2
  exact .inr ⟨72,by decide,HN.out,rfl,(HX7.out.later HX9.out).up⟩
 | true =>
 cases u2 with
 | false =>
  have HN:Hid (openR7 b=(none,72)):=Lib.hid (HNO.out (by rw [HOP3.out,if_pos (.inr rfl)]))
  go_wp2_with fail
  go_ret2
  exact .inr ⟨72,by decide,HN.out,rfl,(HX7.out.later HX9.out).up⟩
 | true =>
 have HOP4:Hid (openP b=if fl ≠ []∧isF fl=false then none else match pcsO ix q4 q5 with | none=>none | some l=>some ⟨b,q0,q1,q2,q3,fl,l⟩):=Lib.hid (by rw [HOP3.out,if_neg (by simp)])
 clear HOP3
 have hfn:fl.length=m:=(HCF.out _ (Below.refl _ _)).len
 have s8:IntKind.i64.wrap ((q5:Int) - 8)=(q5:Int) - 8:=i64_sum (by omega) (by omega)
 by_cases hm0:m=0
 case' pos =>
  have HOP5:Hid (openP b=match pcsO ix q4 q5 with | none=>none | some l=>some ⟨b,q0,q1,q2,q3,fl,l⟩):=Lib.hid (by rw [HOP4.out,if_neg (by rintro ⟨h,_⟩;exact h (List.eq_nil_of_length_eq_zero (by omega)))])
  have dm:decide ((m:Int) > 0)=false:=decide_eq_false (by omega)
  have dm2:decide (0 < m)=false:=decide_eq_false (by omega)
  clear HOP4
  go_upto_region 16 with fail
  have HX10:=Lib.hid (HX7.out.later HX9.out)
  have HBZ:Hid (∀ (z:World),Below x9.heap.size x9 z→Below x7.heap.size x7 z):=Lib.hid fun z hz=>HX9.out.trans (hz.mono HX9.out.size)
  clear dm dm2 hm0
 case' neg =>
  have dm:decide ((m:Int) > 0)=true:=decide_eq_true (by omega)
  have dm2:decide (0 < m)=true:=decide_eq_true (by omega)
  obtain ⟨fo,hfo⟩:∃ z,z=bf_checkE fl:=⟨_,rfl⟩
  have HFO:=Lib.hid hfo
  have HFF:=Lib.hid hfn
  clear hfo hfn
  by_cases hf0:fo=0
  case neg =>
   have d0:decide (fo=0)=false:=decide_eq_false hf0
   have HN:Hid (openR7 b=(none,72)):=Lib.hid (HNO.out (by rw [HOP4.out,if_pos ⟨by intro h;have:=HFF.out;rw [h] at this;exact hm0 this.symm,by have:=HFO.out;unfold bf_checkE at this;cases hh:isF fl with | false=>rfl | true=>rw [hh] at this;exact absurd this hf0⟩]))
   go_wp2_with (go_at_call 71;go_loud (go_must (refine (bf_check_any fl _ m _ _ (by omega) (HCF.out _ HX9.out).rb).mono ?_);rw [← HFO.out];rintro e x10 ⟨rfl,hb⟩;have HX10:=Lib.hid ((HX7.out.later HX9.out).later hb);clear hb))
   go_ret2
   exact .inr ⟨72,by decide,HN.out,rfl,HX10.out.up⟩
  have d0:decide (fo=0)=true:=decide_eq_true hf0
  have HOP5:Hid (openP b=match pcsO ix q4 q5 with | none=>none | some l=>some ⟨b,q0,q1,q2,q3,fl,l⟩):=Lib.hid (by rw [HOP4.out,if_neg (by rintro ⟨_,h⟩;have:=HFO.out;unfold bf_checkE at this;rw [h] at this;rw [hf0] at this;cases this)])
  clear HOP4
  go_upto_region 16 with (go_at_call 71;go_loud (go_must (refine (bf_check_any fl _ m _ _ (by omega) (HCF.out _ HX9.out).rb).mono ?_);rw [← HFO.out];rintro e x10 ⟨rfl,hb⟩;have HX10:=Lib.hid ((HX7.out.later HX9.out).later hb);have HBZ:Hid (∀ (z:World),Below x10.heap.size x10 z→Below x7.heap.size x7 z):=Lib.hid fun z hz=>HX9.out.trans ((hb.trans (hz.mono hb.size)).mono HX9.out.size);clear hb))
  have hfn:=HFF.out
  clear dm dm2 d0 hf0 HFO HFF hm0
 all_goals
  have hq5:q5≤100000000:=by omega
  cases hpc:pcsO ix q4 q5 with
  | none =>
   have HP:=Lib.hid hpc
   have HN:Hid (openR7 b=(none,72)):=Lib.hid (HNO.out (by rw [HOP5.out,hpc]))
   clear hpc
   go_wp2_with (go_at_call 72;go_loud (go_must (refine (index_no (HCK.out _ (HBZ.out _ (Below.refl _ _))) (by omega) (by omega) ⟨h8,hq5⟩ _ rfl HP.out).mono ?_);rintro e x11 ⟨⟨A3,m3,c3,rfl⟩,hb⟩;have HX11:=Lib.hid (HX10.out.later hb);clear hb))
   go_ret2
   exact .inr ⟨72,by decide,HN.out,rfl,HX11.out.up⟩
  | some l =>
  have HP:=Lib.hid hpc
  have HN:Hid (openR7 b=(some ⟨b,q0,q1,q2,q3,fl,l⟩,0)):=Lib.hid (HYES.out _ (by rw [HOP5.out,hpc]))
  clear hpc
  go_upto_region 19 with (go_at_call 72;go_loud (go_must (refine (index_yes (HCK.out _ (HBZ.out _ (Below.refl _ _))) (by omega) (by omega) ⟨h8,hq5⟩ _ rfl HP.out h40.1).mono ?_);rintro e x11 ⟨g3,c3,rs,rfl,hrs,hm3,ho⟩;have HX11:=Lib.hid (HX10.out.app ho);have HM3:=Lib.hid hm3;have HRS:=Lib.hid hrs;clear ho hm3 hrs))
  clear HX10 HBZ HP HOP5 s8 HCF HCK HTB7 HYES HNO HTB HS HX9 HX7 HX6 HSE
  obtain ⟨u,rfl⟩:∃ u,q4=u + 1:=⟨q4 - 1,by omega⟩
  obtain ⟨f1,hf1⟩:∃ r,rs[0]?=some r:=⟨_,List.getElem?_eq_getElem (by have:=HM3.out;omega)⟩
  obtain ⟨fn,hfn'⟩:∃ r,rs[u]?=some r:=⟨_,List.getElem?_eq_getElem (by have:=HM3.out;omega)⟩
  have HF1:=Lib.hid hf1
  have HFN:=Lib.hid hfn'
  clear hf1 hfn'
  have sU:IntKind.i64.wrap (u:Int)=(u:Int):=IntWalk.i64_in _ ⟨by omega,by omega⟩
  have j1:(0:Int) < (u:Int) + 1:=by omega
  have j2:(0:Int)≤(u:Int):=by omega
  have j3:(u:Int) < (u:Int) + 1:=by omega
  refine lt_start [21] (by kernel_rfl) ?_
  intro xd hd
  refine ⟨fun z=>OW w (boxO g4 [.int .i64 q0,.int .i64 q1,.int .i64 q2,.int .i64 q3,.int .i64 (u + 1:Nat),.int .i64 q5,.int .i64 (q5 + G:Nat)]::bytO 5 (some ⟨gb,0,none⟩,c2,b)::rowO 137 4 (.slice (some ⟨g3,0,none⟩) (u + 1) c3) (u + 1) (rs.flatMap PRec.cells)::rs.flatMap PRec.obs) z,?_⟩
  have HX12:Hid (OW w (boxO g4 [.int .i64 q0,.int .i64 q1,.int .i64 q2,.int .i64 q3,.int .i64 (u + 1:Nat),.int .i64 q5,.int .i64 (q5 + G:Nat)]::bytO 5 (some ⟨gb,0,none⟩,c2,b)::rowO 137 4 (.slice (some ⟨g3,0,none⟩) (u + 1) c3) (u + 1) (rs.flatMap PRec.cells)::rs.flatMap PRec.obs) xd):=Lib.hid (HX11.out.later hd)
  have HS:=Lib.hid (HX11.out.later hd)
  refine lp2 0 rfl (fun _=>HS.out) ?_
  simp only [Act.put,ls]
  refine lt_pure 1 rfl (by kernel_rfl) (by kernel_rfl) (by kernel_rfl) (by kernel_rfl) (fun _ _ _ h=>h) (v := .pointer (some ⟨g4,1,none⟩)) (yi_run rfl (fun w=>by kernel_rfl)) (fun _=>HS.out) ?_
  simp only [Act.put,ls]
  refine lq 2 [19,21] rfl (yi_cell rfl rfl rfl (fun w hS=>OW.cell hS (i:=0) (j:=1) rfl rfl) Tryz.isAgg3) HS.out ?_
  simp only [Act.put,ls]
  refine lt_pure 3 rfl (by kernel_rfl) (by kernel_rfl) (by kernel_rfl) (by kernel_rfl) (fun _ _ _ h=>h) (v := .pointer (some ⟨g4,2,none⟩)) (yi_run rfl (fun w=>by kernel_rfl)) (fun _=>HS.out) ?_
  simp only [Act.put,ls]
  refine lq 4 [19,21] rfl (yi_cell rfl rfl rfl (fun w hS=>OW.cell hS (i:=0) (j:=2) rfl rfl) Tryz.isAgg3) HS.out ?_
  simp only [Act.put,ls]
  refine lt_pure 5 rfl (by kernel_rfl) (by kernel_rfl) (by kernel_rfl) (by kernel_rfl) (fun _ _ _ h=>h) (v := .pointer (some ⟨g4,3,none⟩)) (yi_run rfl (fun w=>by kernel_rfl)) (fun _=>HS.out) ?_
  simp only [Act.put,ls]
  refine lq 6 [19,21] rfl (yi_cell rfl rfl rfl (fun w hS=>OW.cell hS (i:=0) (j:=3) rfl rfl) Tryz.isAgg3) HS.out ?_
  simp only [Act.put,ls]
  refine lp2 7 rfl (fun _=>HS.out) ?_
  simp only [Act.put,ls]
  refine lp2 8 rfl (fun _=>HS.out) ?_
  simp only [Act.put,ls]
  refine lp2 9 rfl (fun _=>HS.out) ?_
  simp only [Act.put,ls]
  refine lp2 10 rfl (fun _=>HS.out) ?_
  simp only [Act.put,ls]
  refine lp2 11 rfl (fun _=>HS.out) ?_
  simp only [Act.put,ls]
  refine lq 12 [19,21] rfl (yi_cell rfl rfl rfl (fun w hS=>prow_cell (g:=g3) (m:=u + 1) (c:=c3) hS (by simp) HF1.out (j:=0) rfl) Tryz.isAgg34) HS.out ?_
  simp only [Act.put,ls]
  refine lp2 13 rfl (fun _=>HS.out) ?_
  simp only [Act.put,ls]
  refine lp2 14 rfl (fun _=>HS.out) ?_
  simp only [Act.put,ls]
  refine lp2 15 rfl (fun _=>HS.out) ?_
  simp only [Act.put,ls]
  refine lp2 16 rfl (fun _=>HS.out) ?_
  simp only [Act.put,ls]
  refine lp2 17 rfl (fun _=>HS.out) ?_
  simp only [Act.put,ls]
  refine lq 18 [19,21] rfl (yi_cell rfl rfl rfl (fun w hS=>prow_cell (g:=g3) (m:=u + 1) (c:=c3) hS (by simp) HFN.out (j:=1) rfl) Tryz.isAgg34) HS.out ?_
  simp only [Act.put,ls]
  refine lp2 19 rfl (fun _=>HS.out) ?_
  simp only [Act.put,ls]
  refine lt_op 20 rfl (by kernel_rfl) rfl ?_
  refine wpo_alloc rfl [.int .i64 0,.int .i64 0,.int .i64 0,.int .i64 0,.int .i64 0,.int .i64 0,.slice none 0 0,.slice none 0 0] (.inl (by kernel_rfl)) HX12.out ?_
  intro g9 x13 hz _
  replace HX12:=Lib.hid (hz.perm (fr_perm _ _))
  replace HS:=Lib.hid hz.left
  clear hz
  refine ⟨fun _=>HS.out,?_⟩
  simp only [Act.put,ls]
  refine lt_end 21 rfl (by kernel_rfl) rfl (by kernel_rfl) ?_
  refine wpo_put rfl HX12.out 0 rfl rfl [.int .i64 0,.int .i64 q0,.int .i64 q1,.int .i64 q2,.int .i64 q3,.int .i64 (q5 + G + H + 68:Nat),.slice f1.A f1.p.a.length f1.c,.slice fn.B fn.p.b.length fn.d] rfl rfl (by kernel_rfl) (by simp [Value.oneCell']) ?_
  intro x14 hz _
  replace HX12:=Lib.hid hz
  clear hz
  simp only [Act.put]
  refine lt_done (by kernel_rfl) ?_
  clear HS
  have HE8:Hid (OW w (boxO g9 [.int .i64 0,.int .i64 q0,.int .i64 q1,.int .i64 q2,.int .i64 q3,.int .i64 (q5 + G + H + 68:Nat),.slice f1.A f1.p.a.length f1.c,.slice fn.B fn.p.b.length fn.d]::(boxO g4 [.int .i64 q0,.int .i64 q1,.int .i64 q2,.int .i64 q3,.int .i64 (u + 1:Nat),.int .i64 q5,.int .i64 (q5 + G:Nat)]::bytO 5 (some ⟨gb,0,none⟩,c2,b)::rowO 137 4 (.slice (some ⟨g3,0,none⟩) (u + 1) c3) (u + 1) (rs.flatMap PRec.cells)::rs.flatMap PRec.obs)) _):=HX12
  clear HX12 HX11
  obtain ⟨q,hq⟩:∃ q:RunRec,q=⟨0,gb,c2,some ⟨g3,0,none⟩,c3,f1,fn,rs,q5,⟨b,q0,q1,q2,q3,fl,l⟩⟩:=⟨_,rfl⟩
  have HQC:Hid (∀ g,(({ q with g:=g }:RunRec)).cells=[.slice (some ⟨gb,0,none⟩) (q5 + G + H + 68) c2,.int .i64 0,.int .i64 q0,.int .i64 q1,.int .i64 q2,.int .i64 q3,.int .i64 (q5 + G + H + 68:Nat),.slice f1.A f1.p.a.length f1.c,.slice fn.B fn.p.b.length fn.d,.slice (some ⟨g3,0,none⟩) (u + 1) c3,.slice (some ⟨gb,q5,none⟩) m (c2 - q5)]):=Lib.hid fun g=>by subst hq;unfold RunRec.cells;dsimp only;rw [HL.out,hfn,← HM3.out]
  have HQ:=Lib.hid hq
  clear hq
  have HOB:Hid (∀ g,(({ q with g:=g }:RunRec)).obs=boxO g [.slice (some ⟨gb,0,none⟩) (q5 + G + H + 68) c2,.int .i64 0,.int .i64 q0,.int .i64 q1,.int .i64 q2,.int .i64 q3,.int .i64 (q5 + G + H + 68:Nat),.slice f1.A f1.p.a.length f1.c,.slice fn.B fn.p.b.length fn.d,.slice (some ⟨g3,0,none⟩) (u + 1) c3,.slice (some ⟨gb,q5,none⟩) m (c2 - q5)]::bytO 5 (some ⟨gb,0,none⟩,c2,b)::rowO 137 4 (.slice (some ⟨g3,0,none⟩) (u + 1) c3) (u + 1) (rs.flatMap PRec.cells)::rs.flatMap PRec.obs):=Lib.hid fun g=>by unfold RunRec.obs;rw [HQC.out g,HQ.out];dsimp only;rw [← HM3.out]
  have HOK:Hid (∀ g,(({ q with g:=g }:RunRec)).Ok):=Lib.hid fun g=>by
   rw [HQ.out]
   refine ⟨HRS.out,HF1.out,?_,?_,?_⟩
   ·dsimp only;rw [← HM3.out];exact HFN.out
   ·dsimp only;rw [hfn,HL.out];exact ⟨HFL.out,by have:=HMG.out;omega,by omega⟩
   ·dsimp only;rw [HL.out];exact hn9
  go_wp2_with (first
   | (refine wl_rowR rfl 47 (.tmp 16) rfl rfl (HE8.out.range (i:=0) rfl) run_row ?_)
   | (refine wl_box rfl (.tmp 160) rfl [.slice (some ⟨gb,0,none⟩) (q5 + G + H + 68) c2,.int .i64 0,.int .i64 q0,.int .i64 q1,.int .i64 q2,.int .i64 q3,.int .i64 (q5 + G + H + 68:Nat),.slice f1.A f1.p.a.length f1.c,.slice fn.B fn.p.b.length fn.d,.slice (some ⟨g3,0,none⟩) (u + 1) c3,.slice (some ⟨gb,q5,none⟩) m (c2 - q5)] (by kernel_rfl) HE8.out ?_;intro g6 x15 hz _;have HX15:=Lib.hid hz;clear hz))
  go_ret2
  refine .inl ⟨{ q with g:=g6 },?_,?_,HOK.out g6,rfl,?_⟩
  ·rw [HQ.out];exact HN.out
  ·rw [HQ.out]
  ·rw [HOB.out g6]
   exact ((HX15.out.perm (fr_perm _ _)).erase 1).erase 1
end Go.Proofs.YtfdbcfaeiglbeaaGreatDoor
