/-
 Layer 7: RunMany. (Printed by gen_runm3.py.)
-/
import Derived.Test.YtfdbcfaeiglbeaaGreatDoorRunM2
namespace Go.Proofs.YtfdbcfaeiglbeaaGreatDoor
open Go.RowKit
theorem kN_is {L:List Ent} {f:Nat} {t:Ent} (h:AscE L) (hf:L[f]?=some t):kN t L=f:=by
 rcases Nat.lt_trichotomy (kN t L) f with h1 | h1 | h1
 ·exfalso
  have hl:=(List.getElem?_eq_some_iff.1 hf).1
  obtain ⟨x,hx⟩:∃ x,L[kN t L]?=some x:=⟨_,List.getElem?_eq_getElem (by omega)⟩
  have h2:=kN_at hx
  obtain ⟨i1,e1⟩:=List.getElem?_eq_some_iff.1 hx
  obtain ⟨i2,e2⟩:=List.getElem?_eq_some_iff.1 hf
  have h3:=List.pairwise_iff_getElem.1 h (kN t L) f i1 i2 h1
  rw [e1,e2] at h3
  exact h2 h3
 ·exact h1
 ·exfalso
  have h2:=kN_lt hf h1
  have h3:=ord_E.swap t t
  omega
theorem blocks_n {o:OptR} {L:List Ent} (h:refuseR o L=0):1≤(runW o L).ps.length∧(runW o L).ps.length≤L.length:=by
 obtain ⟨h1,h2,h3⟩:=refuse_ok h
 obtain ⟨⟨b1,b2,b3,b4⟩,hse⟩:=optOk.iff h1
 obtain ⟨hch,_⟩:=cut_ch (t:=o.block.toNat) (by omega) h3
 have hne:∀ c,c ∈ cutR o.block.toNat [] L→c ≠ []:=fun c hc=>(hch c hc).ne
 have hl:∀ (cs:List (List Ent)) (a:Nat),(pcsOf a cs).length=cs.length:=by
  intro cs
  induction cs with
  | nil=>intro a;rfl
  | cons c cs ih=>intro a;show (pcsOf _ cs).length + 1=_;rw [ih];rfl
 refine ⟨?_,?_⟩
 ·have h5:=cut_ne (t:=o.block.toNat) h2
  show 1≤(pcsOf 8 _).length
  rw [hl]
  exact List.length_pos_iff.2 h5
 ·show (pcsOf 8 _).length≤_
  rw [hl]
  exact cut_count hne
theorem size_cases (n0 s0:Int):∃ N S0 P:Nat,min (max n0 1) 20000=(N:Int)∧1≤N∧N≤20000∧min (max s0 0) 4096=(S0:Int)∧S0≤4096∧(N:Int) * ((S0:Int) + 20)=(P:Int)∧P=N * (S0 + 20)∧P≤82320000:=by
 refine ⟨(min (max n0 1) 20000).toNat,(min (max s0 0) 4096).toNat,(min (max n0 1) 20000).toNat * ((min (max s0 0) 4096).toNat + 20),by omega,by omega,by omega,by omega,by omega,?_,rfl,?_⟩
 ·rw [Int.natCast_mul];rfl
 ·exact Nat.mul_le_mul (show (min (max n0 1) 20000).toNat≤20000 by omega) (show (min (max s0 0) 4096).toNat + 20≤4116 by omega)
theorem many_p0 (a b r:Ob):([a,b] ++ [r]).Perm (r::a::b::[]):=List.perm_append_comm
set_option maxRecDepth 1000000 in
set_option maxHeartbeats 16000000 in
theorem many_any (n0 s0:Int) (oa:OptR) (at0:Int) (w:World) (ht:TabAt 0 w) :
  Calls Tryz.prog 4 #[.int .i64 n0,.int .i64 s0,optV oa,.int .i64 at0] w fun e z=>e = .returned (.bool true)∧Below w.heap.size w z:=by
 have HTB:Hid (∀ z,Below w.heap.size w z→TabAt 0 z):=Lib.hid fun z hz=>ht.later hz
 obtain ⟨v0,v1,v2,v3,v4,hv⟩:∃ v0 v1 v2 v3 v4,optF oa=⟨v0,v1,v2,v3,v4⟩:=⟨_,_,_,_,_,rfl⟩
 have HOA:Hid (optV (optF oa) = .agg #[.int .i64 v0,.int .i64 v1,.int .i64 v2,.int .i64 v3,.int .i64 v4]):=Lib.hid (by rw [hv];rfl)
 have HKA:Hid (optOk ⟨v0,v1,1099511627776,v3,v4⟩=true):=Lib.hid (by have h:=optX_ok oa;unfold optX at h;rw [hv] at h;exact h)
 obtain ⟨N,S0,P,hn,hN1,hN2,hs,hS0,hp,hPd,hP8⟩:=size_cases n0 s0
 have HPD:=Lib.hid hPd
 have w1:IntKind.i64.wrap ((S0:Int) + 20)=(S0:Int) + 20:=i64_sum (by omega) (by omega)
 have w2:IntKind.i64.wrap ((P:Nat):Int)=(P:Int):=i64_sum (by omega) (by omega)
 have HX:=Lib.hid (OW.nil w)
 clear ht hv hPd
 unfold optV
 go_enter Tryz.func4,Tryz.ntmps4
 by_cases hbig:12000000 < P
 case' pos =>
  have b1:decide (12000000 < (P:Int))=true:=decide_eq_true (by omega)
  obtain ⟨Dv,hDv⟩:∃ D:Nat,D=12000000 / N:=⟨_,rfl⟩
  have hD1:600≤Dv:=by rw [hDv];exact (Nat.le_div_iff_mul_le (by omega)).2 (by omega)
  have hD2:N * Dv≤12000000:=by rw [hDv];exact Nat.mul_div_le _ _
  have hD3:Dv≤4116:=by
   rcases Nat.lt_or_ge 4116 Dv with h | h
   ·exfalso
    have h1:N * (S0 + 20)≤N * Dv:=Nat.mul_le_mul_left _ (by omega)
    have:=HPD.out
    omega
   ·exact h
  have hdv:(12000000:Int) / (N:Int)=(Dv:Int):=by rw [hDv];rfl
  have hnz:¬ (N:Int)=0:=by omega
  obtain ⟨S1,hS1⟩:∃ S1,S1=Dv - 20:=⟨_,rfl⟩
  have w3:IntKind.i64.wrap ((Dv:Int) - 20)=(S1:Int):=by rw [i64_sum (by omega) (by omega)];omega
  have HS1:Hid (S1≤4096∧N * (S1 + 20)≤12000000):=Lib.hid ⟨by omega,by rw [show S1 + 20=Dv by omega];exact hD2⟩
  clear hDv hD1 hD2 hD3 hS1
  go_upto_region 5 with (refine wl_box rfl (.tmp 2) rfl [.int .i64 oa.block,.int .i64 oa.bits,.int .i64 oa.index,.int .i64 oa.low,.int .i64 oa.clock] rfl HX.out ?_;intro g1 x1 hz _;have HX1:Hid (OW w [boxO g1 [.int .i64 oa.block,.int .i64 oa.bits,.int .i64 oa.index,.int .i64 oa.low,.int .i64 oa.clock]] x1):=Lib.hid hz;clear hz HX)
 case' neg =>
  have b1:decide (12000000 < (P:Int))=false:=decide_eq_false (by omega)
  obtain ⟨S1,hS1⟩:∃ S1,S1=S0:=⟨_,rfl⟩
  subst hS1
  have HS1:Hid (S1≤4096∧N * (S1 + 20)≤12000000):=Lib.hid ⟨by omega,by rw [← HPD.out];omega⟩
  go_upto_region 5 with (refine wl_box rfl (.tmp 2) rfl [.int .i64 oa.block,.int .i64 oa.bits,.int .i64 oa.index,.int .i64 oa.low,.int .i64 oa.clock] rfl HX.out ?_;intro g1 x1 hz _;have HX1:Hid (OW w [boxO g1 [.int .i64 oa.block,.int .i64 oa.bits,.int .i64 oa.index,.int .i64 oa.low,.int .i64 oa.clock]] x1):=Lib.hid hz;clear hz HX)
 all_goals
  go_wp2_with (first
   | (refine wl_rowR rfl 23 (.tmp 6) rfl rfl (HX1.out.range (i:=0) rfl) opts_row ?_)
   | (go_at_call 25;go_must (refine (options_any oa _).mono ?_);rw [HOA.out];rintro e x2 ⟨rfl,hb⟩;have HX2:=Lib.hid (HX1.out.later hb);clear hb HX1)
   | (refine wl_alloc rfl rfl [.int .i64 0,.int .i64 0,.int .i64 0,.int .i64 0,.int .i64 0] (.inl (by kernel_rfl)) HX2.out ?_;intro g2 x3 hz _;have HX3:Hid (OW w [boxO g1 [.int .i64 oa.block,.int .i64 oa.bits,.int .i64 oa.index,.int .i64 oa.low,.int .i64 oa.clock],boxO g2 [.int .i64 0,.int .i64 0,.int .i64 0,.int .i64 0,.int .i64 0]] x3):=Lib.hid hz;clear hz HX2)
   | (refine wl_put rfl (.tmp 9) (.tmp 35) rfl HX3.out 1 rfl rfl [.int .i64 v0,.int .i64 v1,.int .i64 v2,.int .i64 v3,.int .i64 v4] rfl rfl (by kernel_rfl) (by simp [Value.oneCell']) ?_;intro x4 hz _;have HX4:Hid (OW w [boxO g1 [.int .i64 oa.block,.int .i64 oa.bits,.int .i64 oa.index,.int .i64 oa.low,.int .i64 oa.clock],boxO g2 [.int .i64 v0,.int .i64 v1,.int .i64 v2,.int .i64 v3,.int .i64 v4]] x4):=Lib.hid hz;clear hz HX3)
   | (refine wl_put1 rfl (.tmp 36) (.const (.int .i64 1099511627776)) rfl HX4.out 1 rfl 2 rfl (by simp) _ rfl (by kernel_rfl) rfl ?_;intro x5 hz _;have HX5:Hid (OW w [boxO g1 [.int .i64 oa.block,.int .i64 oa.bits,.int .i64 oa.index,.int .i64 oa.low,.int .i64 oa.clock],boxO g2 [.int .i64 v0,.int .i64 v1,.int .i64 1099511627776,.int .i64 v3,.int .i64 v4]] x5):=Lib.hid hz;clear hz HX4))
  have HX6:Hid (OW w (rowO 60 7 (.slice none 0 0) 0 (([]:List ER).flatMap ER.cells)::boxO g1 [.int .i64 oa.block,.int .i64 oa.bits,.int .i64 oa.index,.int .i64 oa.low,.int .i64 oa.clock]::boxO g2 [.int .i64 v0,.int .i64 v1,.int .i64 1099511627776,.int .i64 v3,.int .i64 v4]::([]:List Ob)) x5):=Lib.hid ((HX5.out.nilRow 60 7).perm (many_p0 _ _ _))
  clear HX5
  go_loopw [10,11] (fun lv iv wr=>∃ (i:Nat) (LA:Option Addr) (lc:Nat) (rs:List ER) (T:List Ob),i≤N∧iv = .int .i64 i∧lv = .slice LA i lc∧Hid (rs.length=i∧rs.map ER.e=manyL S1 i∧∀ r,r ∈ rs→MIn T r)∧Hid (OW w (rowO 60 7 (.slice LA i lc) i (rs.flatMap ER.cells)::boxO g1 [.int .i64 oa.block,.int .i64 oa.bits,.int .i64 oa.index,.int .i64 oa.low,.int .i64 oa.clock]::boxO g2 [.int .i64 v0,.int .i64 v1,.int .i64 1099511627776,.int .i64 v3,.int .i64 v4]::T) wr)) (fun _ iv _=>N - (intOf iv).toNat)
  case atStart=>exact ⟨0,none,0,[],[],Nat.zero_le _,rfl,rfl,Lib.hid ⟨rfl,rfl,fun r h=>by cases h⟩,HX6⟩
  case round =>
   clear HX6
   obtain ⟨i,LA,lc,rs,T,hin,rfl,rfl,HRS,HO⟩:=hrel
   by_cases hlt:i < N
   case pos =>
    have hd:decide ((i:Int) < (N:Int))=true:=decide_eq_true (by omega)
    go_wp2_with (first
     | (go_at_call 26;go_must (refine (entry7_any i S1 (by omega) HS1.out.1 _).mono ?_);rintro e y1 ⟨s,T2,hse,rfl,hmi,hz⟩;have HSE:=Lib.hid hse;have HMI:=Lib.hid hmi;have HO1:=Lib.hid (HO.out.app hz);clear hse hmi hz HO)
     | (refine wl_build rfl #[(0,.tmp 45)] rfl #[.slice s.A s.e.row.length s.c,.int .i64 s.e.fam,.slice s.B s.e.qual.length s.d,.int .i64 s.e.ts,.int .i64 s.e.seq,.int .i64 s.e.kind,.slice s.D s.e.val.length s.q] Tryz.entsS (.agg #[.slice none 0 0,.int .i64 0,.slice none 0 0,.int .i64 0,.int .i64 0,.int .i64 0,.slice none 0 0]) (by kernel_rfl) (by decide) (by decide) (by decide) rfl (by first | rfl | kernel_rfl) HO1.out ?_;intro g5 y2 hz _;have HO2:Hid (OW w (((rowO 60 7 (.slice LA i lc) i (rs.flatMap ER.cells)::boxO g1 [.int .i64 oa.block,.int .i64 oa.bits,.int .i64 oa.index,.int .i64 oa.low,.int .i64 oa.clock]::boxO g2 [.int .i64 v0,.int .i64 v1,.int .i64 1099511627776,.int .i64 v3,.int .i64 v4]::T) ++ T2) ++ [rowO 60 7 (.slice (some ⟨g5,0,none⟩) 1 1) 1 [.slice s.A s.e.row.length s.c,.int .i64 s.e.fam,.slice s.B s.e.qual.length s.d,.int .i64 s.e.ts,.int .i64 s.e.seq,.int .i64 s.e.kind,.slice s.D s.e.val.length s.q]]) y2):=Lib.hid hz;clear hz HO1)
     | (at_builtin;go_must (refine wl_append rfl (.tmp 42) (.tmp 46) rfl Tryz.entsS HO2.out 0 rfl rfl _ (some ⟨g5,0,none⟩) 1 1 [.slice s.A s.e.row.length s.c,.int .i64 s.e.fam,.slice s.B s.e.qual.length s.d,.int .i64 s.e.ts,.int .i64 s.e.seq,.int .i64 s.e.kind,.slice s.D s.e.val.length s.q] rfl (Reads.own (HO2.out.rowm (List.mem_append_right _ (List.mem_singleton.2 rfl)))) (by simp [Value.oneCell']) (by unfold maxLen;omega) (by omega) ?_);intro A6 c6 y3 hz _;have HO3:Hid (OW w (((rowO 60 7 (.slice A6 (i + 1) c6) (i + 1) (rs.flatMap ER.cells ++ [.slice s.A s.e.row.length s.c,.int .i64 s.e.fam,.slice s.B s.e.qual.length s.d,.int .i64 s.e.ts,.int .i64 s.e.seq,.int .i64 s.e.kind,.slice s.D s.e.val.length s.q])::boxO g1 [.int .i64 oa.block,.int .i64 oa.bits,.int .i64 oa.index,.int .i64 oa.low,.int .i64 oa.clock]::boxO g2 [.int .i64 v0,.int .i64 v1,.int .i64 1099511627776,.int .i64 v3,.int .i64 v4]::T) ++ T2) ++ [rowO 60 7 (.slice (some ⟨g5,0,none⟩) 1 1) 1 [.slice s.A s.e.row.length s.c,.int .i64 s.e.fam,.slice s.B s.e.qual.length s.d,.int .i64 s.e.ts,.int .i64 s.e.seq,.int .i64 s.e.kind,.slice s.D s.e.val.length s.q]]) y3):=Lib.hid hz;clear hz HO2))
    have HO4:Hid (OW w (rowO 60 7 (.slice A6 (i + 1) c6) (i + 1) ((rs ++ [s]).flatMap ER.cells)::boxO g1 [.int .i64 oa.block,.int .i64 oa.bits,.int .i64 oa.index,.int .i64 oa.low,.int .i64 oa.clock]::boxO g2 [.int .i64 v0,.int .i64 v1,.int .i64 1099511627776,.int .i64 v3,.int .i64 v4]::(T ++ T2)) y3):=Lib.hid (by
     rw [cellE_snoc]
     exact OW.left HO3.out)
    have HRS4:Hid ((rs ++ [s]).length=i + 1∧(rs ++ [s]).map ER.e=manyL S1 (i + 1)∧∀ r,r ∈ rs ++ [s]→MIn (T ++ T2) r):=Lib.hid ⟨by rw [List.length_append,HRS.out.1];rfl,by rw [List.map_append,HRS.out.2.1,manyL_succ,← HSE.out];rfl,fun r hr=>by
     rcases List.mem_append.1 hr with h | h
     ·exact (HRS.out.2.2 r h).more fun o ho=>List.mem_append_left _ ho
     ·cases List.mem_singleton.1 h
      exact HMI.out.more fun o ho=>List.mem_append_right _ ho⟩
    clear HO3
    go_roundw
    case rel=>exact ⟨i + 1,A6,c6,rs ++ [s],T ++ T2,by omega,by go_num,rfl,HRS4,HO4⟩
    case measure=>simp [intOf];omega
   have hd:decide ((i:Int) < (N:Int))=false:=decide_eq_false (by omega)
   obtain rfl:i=N:=by omega
   have HLE:Hid (∀ z,Below wr.heap.size wr z→Ens z LA i (manyL S1 i)):=Lib.hid fun z hz=>by
    have hz1:=HO.out.later hz
    have h:=hz1.ens (i:=0) rfl fun r hr=>((HRS.out.2.2 r hr).more fun o ho => .tail _ (.tail _ (.tail _ ho))).en hz1
    rwa [HRS.out.2.1] at h
   obtain ⟨L,hL⟩:∃ L,L=manyL S1 i:=⟨_,rfl⟩
   have HLL:Hid (L.length=i):=Lib.hid (by rw [hL,manyL_len])
   have HOL:Hid (OrdOk 1099511627776 L):=Lib.hid (by rw [hL];exact many_ord HS1.out.1 (by omega) (by decide))
   have HRA:Hid (refuseR ⟨v0,v1,1099511627776,v3,v4⟩ L=0):=Lib.hid (refuse_of HKA.out (fun h=>by rw [h] at HLL;have h2:=HLL.out;simp at h2;omega) HOL.out)
   have HSA:Hid ((runBy ⟨v0,v1,1099511627776,v3,v4⟩ L).length≤16777216):=Lib.hid (by
    have h:=HRA.out
    rw [hL] at h ⊢
    exact many_small h hN2 HS1.out.2)
   have HAT:Hid (∀ f,f < i→L[f]?=some (entM S1 f)):=Lib.hid fun f hf=>by rw [hL];exact manyL_at hf
   rw [← hL] at HLE
   obtain ⟨hw1,hw2,hw3⟩:=written_tells HRA.out (by rw [HLL.out];omega)
   obtain ⟨hp1,hp2⟩:=blocks_n HRA.out
   obtain ⟨rw7,hrw⟩:∃ z,z=runW ⟨v0,v1,1099511627776,v3,v4⟩ L:=⟨_,rfl⟩
   have HRC:Hid (rw7.count=i∧rw7.index=1099511627776):=Lib.hid (by rw [hrw];exact ⟨HLL.out,rfl⟩)
   rw [← hrw] at hw1 hw2 hw3 hp1 hp2
   have HRW:=Lib.hid hrw.symm
   have HW1:=Lib.hid hw1
   have HW2:=Lib.hid hw2
   have HW3:=Lib.hid hw3
   have HPN:=Lib.hid (And.intro hp1 hp2)
   have HWB:Hid (Below w.heap.size w wr):=Lib.hid HO.out.up
   clear hL hw1 hw2 hw3 hp1 hp2 hrw hlt hin
   have hwb:=wholeI_in at0 0 ((i:Int) - 1) (by omega)
   obtain ⟨f,hf⟩:∃ f:Nat,(f:Int)=wholeI at0 0 ((i:Int) - 1):=⟨(wholeI at0 0 ((i:Int) - 1)).toNat,Int.toNat_of_nonneg hwb.1⟩
   have hfi:f < i:=by rw [← hf] at hwb;omega
   have HWF:Hid (wholeI at0 0 ((i:Int) - 1)=(f:Int)):=Lib.hid hf.symm
   have HTF:=Lib.hid (HAT.out f hfi)
   have HSF:Hid (seekF rw7 (entM S1 f) rw7.ps=(L.drop f,true)):=Lib.hid (by rw [HW2.out,← skip_filter HOL.out.asc,kN_drop,kN_is HOL.out.asc HTF.out])
   have HDL:Hid ((L.drop f).length=i - f):=Lib.hid (by rw [List.length_drop,HLL.out])
   have HMY:Hid (mayR rw7 (entM S1 f).row=true):=Lib.hid (by rw [← HRW.out];exact may_yes HRA.out (by rw [HLL.out];omega) (List.mem_of_getElem? HTF.out))
   obtain ⟨tf,htf⟩:∃ t,t=entM S1 f:=⟨_,rfl⟩
   have HTL:Hid (tf.row.length=3∧tf.qual.length=1):=Lib.hid (by rw [htf];exact ⟨rfl,rfl⟩)
   rw [← htf] at HTF HSF HMY
   clear hwb hf htf HAT
   have kf:=meta_count
   have e1:((i:Int) != (i:Int))=false:=by simp
   have e2:(i != i)=false:=by simp
   obtain ⟨ek,hek⟩:∃ k:Int,k=endK true:=⟨_,rfl⟩
   have m1:(ek != 0)=false:=by rw [hek];rfl
   have m2:(ek == 0)=true:=by rw [hek];rfl
   have HEK:=Lib.hid hek.symm
   have tk1:True:=trivial
   have s1:(i:Int) - 1 ≥ 0:=by omega
   clear hek
   go_upto_region 13 with (first
    | (refine wl_rowR rfl 23 (.tmp 9) rfl rfl (HO.out.range (i:=2) rfl) opts_row ?_)
    | (go_at_call 27;go_must (refine (made_yes ⟨v0,v1,1099511627776,v3,v4⟩ L LA i lc _ (HLE.out _ (Below.refl _ _)) (by omega) HRA.out HSA.out (HTB.out _ HWB.out)).mono ?_);rw [HRW.out];rintro e x2 ⟨q,XA,xm,xcp,hq1,hq2,_,rfl,hz⟩;have HQ:=Lib.hid (And.intro hq1 hq2);have HQO:Hid (∀ z,Below x2.heap.size x2 z→OW wr q.obs z):=Lib.hid fun z hb=>OW.right (os:=[bytO 5 (XA,xcp,_)]) (hz.later hb);clear hq1 hq2 hz))
   have HQA:Hid (∀ z,Below x2.heap.size x2 z→RunAt q z):=Lib.hid fun z hb=>RunAt.of HQ.out.2.ok (HQO.out z hb) (List.Sublist.refl _)
   have HL2:Hid (∀ z,Below x2.heap.size x2 z→Ens z LA i L):=Lib.hid fun z hb=>HLE.out _ (HQO.out z hb).up
   have HT2:Hid (∀ z,Below x2.heap.size x2 z→TabAt 0 z):=Lib.hid fun z hb=>HTB.out _ (HWB.out.trans ((HQO.out z hb).up.mono HWB.out.size))
   have HW0:Hid (∀ z,Below x2.heap.size x2 z→Below w.heap.size w z):=Lib.hid fun z hb=>HWB.out.trans ((HQO.out z hb).up.mono HWB.out.size)
   have HKQ:Hid (q.f1.p.a.length≤100000000∧q.fn.p.b.length≤100000000):=Lib.hid (by
    have h1:=(pcin_len (HQ.out.2.pin HQ.out.2.ok.first)).1
    have h2:=(pcin_len (HQ.out.2.pin HQ.out.2.ok.last)).2
    omega)
   have HQC:Hid (q.r.count=i):=Lib.hid (by rw [HQ.out.1,HRC.out.1])
   have HIX:Hid (q.r.index≤1099511627776):=Lib.hid (by rw [HQ.out.1,HRC.out.2];exact Nat.le_refl _)
   have HNB:Hid (q.rs.length≤1000000000):=Lib.hid (by have h1:=HQ.out.2.len;have h2:=HQ.out.2.few;omega)
   obtain ⟨nb,hnb⟩:∃ z,z=q.rs.length:=⟨_,rfl⟩
   have HNQ:=Lib.hid hnb.symm
   have hnb1:1≤nb∧nb≤i:=by
    have h1:=HPN.out
    have h2:=HQ.out.2.len
    rw [HQ.out.1] at h2
    rw [HLL.out] at h1
    rw [hnb,h2];exact h1
   have g1:decide ((nb:Int) < 1)=false:=decide_eq_false (by omega)
   have g2':decide ((nb:Int) > (i:Int))=false:=decide_eq_false (by omega)
   have g3:decide ((i:Int) < (nb:Int))=false:=decide_eq_false (by omega)
   have HU0:=Lib.hid (Below.refl x2.heap.size x2)
   have HLE9:=HLE
   clear hnb HO HLE
   go_upto_region 15 with (first
    | (go_at_call 28;go_must (refine (meta_any q _ (HQA.out _ HU0.out) HKQ.out).mono ?_);rintro e x3 ⟨MA,mc,MB,md,rfl,hz⟩;rw [HQC.out];have HU1:=Lib.hid (HU0.out.trans (hz.up.mono HU0.out.size));clear hz HU0)
    | (go_at_call 29;(have _t:=tk1);go_must (refine (blocks_any q _ (HQA.out _ HU1.out) HNB.out).mono ?_);rw [HNQ.out];rintro r x4 ⟨BA,bc,rfl,hz⟩;have HU2:=Lib.hid (HU1.out.trans (hz.up.mono HU1.out.size));clear hz HU1 tk1 _t)
    | (go_at_call 29;go_must (refine (blocks_any q _ (HQA.out _ HU2.out) HNB.out).mono ?_);rw [HNQ.out];rintro r x5' ⟨BA',bc',rfl,hz⟩;have HU3:=Lib.hid (HU2.out.trans (hz.up.mono HU2.out.size));clear hz HU2))
   go_upto_region 18 with (first
    | (go_at_call 30;go_must (refine (verify_any q HQ.out.2 _ (HQA.out _ HU3.out) (HT2.out _ HU3.out) HIX.out).mono ?_);rw [HQ.out.1,HW3.out];rintro r x6 ⟨rfl,hb⟩;have HU4:=Lib.hid (HU3.out.trans (hb.mono HU3.out.size));clear hb HU3)
    | (go_at_call 20;go_must (refine (num7_any 0 _).mono ?_);rintro r x7 ⟨rfl,rfl⟩))
   go_upto_region 19 with (go_at_call 31;go_must (refine (all_goes q HQ.out.2 wr _ q.obs (List.Sublist.refl _) (HQO.out _ HU4.out) (HTB.out _ HWB.out) L true (by rw [HQ.out.1];exact HW1.out) (by rw [HQC.out,HLL.out];exact Nat.le_refl _) (by rw [HLL.out];omega)).mono ?_);intro r x8 hp;obtain ⟨cg,c',GA,gc,rs8,j1,j2,j3,j4,rfl,hz⟩:=hp;rw [HEK.out];have HZ:Hid (OW wr (entsO GA rs8.length gc rs8 ++ (c'.obs q ++ q.obs)) x8):=Lib.hid hz;have HRS8:=Lib.hid j4;clear hz j1 j2 j3 j4)
   have HGE:Hid (Ens x8 GA rs8.length L):=Lib.hid (by
    have h:=rowE_ens HZ.out
    rwa [HRS8.out] at h)
   have HRN:Hid (rs8.length≤1000000000):=Lib.hid (by have h:=HGE.out.len;rw [HLL.out] at h;omega)
   have HL8:Hid (∀ z,Below x8.heap.size x8 z→Ens z LA i L):=Lib.hid fun z hb=>by
    have h:=HL2.out _ (Below.refl _ _)
    exact (HLE9.out _ HZ.out.up).later hb
   have HO8:Hid (OW wr q.obs x8):=Lib.hid (OW.right (os:=c'.obs q) (OW.right HZ.out))
   go_upto_region 21 with (go_at_call 32;go_must (refine (sameAll_any L L GA rs8.length gc LA i lc _ HGE.out (HL8.out _ (Below.refl _ _)) HRN.out).mono ?_);rintro r x9 ⟨bo,rfl,hbo,hb⟩;obtain rfl:=hbo.2 rfl;have HO9:=Lib.hid (HO8.out.later hb);have HL9:Hid (∀ z,Below x9.heap.size x9 z→Ens z LA i L):=Lib.hid fun z hz=>(HL8.out _ hb).later hz;clear hb hbo HO8 HL8)
   obtain ⟨fb,fo,fr,hLA,hfb,hfe,hfr,hfE⟩:=(HLE9.out _ (Below.refl _ _)).er hfi
   subst hLA
   obtain rfl:tf=fr.e:=by have h:=HTF.out;rw [h] at hfe;injection hfe
   have i0:(0:Int)≤(f:Int):=by omega
   have i1:(f:Int) < (i:Int):=by omega
   have HFR:Hid (∀ z,Below wr.heap.size wr z→z.rangeAt fb (fo + f * 7) fr.cells):=Lib.hid fun z hz j v hj=>(hz.cell (p:=⟨fb,_,none⟩) hfb).trans (hfr j v hj)
   have HFE:Hid (∀ z,Below wr.heap.size wr z→fr.En z):=Lib.hid fun z hz=>hfE.later hz
   have hm0:((L.drop f).length:Int)≤(i:Int):=by rw [HDL.out];omega
   have hm1:(L.drop f).length≤1000000000:=by rw [HDL.out];omega
   have HUP9:=Lib.hid HO9.out.up
   clear hfe hfb hfr hfE
   unfold ER.cells at HFR
   go_upto_region 23 with (first
    | (go_at_call 33;go_must (refine (whole_any at0 0 ((i:Int) - 1) (by omega) (by omega) (by omega) _).mono ?_);rw [HWF.out];rintro r y0 ⟨rfl,rfl⟩)
    | (refine wpList_load_at rfl 60 (.tmp 109) rfl rfl (HFR.out _ HO9.out.up) ent_row5 ?_)
    | (go_at_call 35;go_must (refine (seek7_any q HQ.out.2 _ (RunAt.of HQ.out.2.ok HO9.out (List.Sublist.refl _)) fr.e fr.A _ fr.c fr.B _ fr.d fr.D _ fr.q (HFE.out _ HO9.out.up) (by have h:=HTL.out;omega)).mono ?_);rintro r y1 ⟨cu,hok,hrest,rfl,hz⟩;have HO10:Hid (OW wr (cu.obs q ++ q.obs) y1):=Lib.hid ((HO9.out.app hz).perm List.perm_append_comm);rw [HQ.out.1,HSF.out] at hrest;have HCU:=Lib.hid (And.intro hok hrest);have HB1:=Lib.hid hz.up;clear hok hrest hz)
    | (go_at_call 34;go_must (refine (gone_any q HQ.out.2 cu HCU.out.1 wr _ q.obs (List.Sublist.refl _) HO10.out (HTB.out _ HWB.out) (L.drop f) true (by rw [HQ.out.1];exact HCU.out.2) i hm0 hm1).mono ?_);intro r y2 hp;obtain ⟨c2,HA,hc,rs2,_,_,_,j4,rfl,hz⟩:=hp;rw [HEK.out];have HZ2:Hid (OW wr (entsO HA rs2.length hc rs2 ++ (c2.obs q ++ q.obs)) y2):=Lib.hid hz;have HRS2:=Lib.hid j4;clear hz j4))
   have HHE:Hid (rs2.length=i - f):=Lib.hid (by rw [← HDL.out,← HRS2.out,List.length_map])
   have hr20:0 < rs2.length:=by have h:=HHE.out;omega
   obtain ⟨r0,hr0⟩:∃ r,rs2[0]?=some r:=⟨_,List.getElem?_eq_getElem hr20⟩
   have HRE:Hid (r0.e=fr.e):=Lib.hid (by
    have h1:(rs2.map ER.e)[0]?=some r0.e:=by rw [List.getElem?_map,hr0];rfl
    rw [HRS2.out,List.getElem?_drop,Nat.add_zero,HTF.out] at h1
    injection h1 with h1
    exact h1.symm)
   obtain ⟨hg,hcap,hv,_⟩:=own_form (HZ2.out.row (i:=0) rfl) hr20
   injection hv with hv _ hcp
   subst hv
   have HE0:Hid (∀ z,OW wr (entsO (some ⟨hg,0,none⟩) rs2.length hc rs2 ++ (c2.obs q ++ q.obs)) z→r0.En z):=Lib.hid fun z hz=>by
    have hm:∀ o,o ∈ rowE r0→o ∈ entsO (some ⟨hg,0,none⟩) rs2.length hc rs2 ++ (c2.obs q ++ q.obs):=fun o ho=>List.mem_append_left _ (List.mem_cons_of_mem _ (List.mem_flatMap.2 ⟨r0,List.mem_of_getElem? hr0,ho⟩))
    exact ⟨hz.slm (T:=5) (hm _ (by simp [rowE])) rfl,hz.slm (T:=5) (hm _ (by simp [rowE])) rfl,hz.slm (T:=5) (hm _ (by simp [rowE])) rfl⟩
   have HR0:Hid (∀ z,OW wr (entsO (some ⟨hg,0,none⟩) rs2.length hc rs2 ++ (c2.obs q ++ q.obs)) z→z.rangeAt hg 0 [.slice r0.A r0.e.row.length r0.c,.int .i64 r0.e.fam,.slice r0.B r0.e.qual.length r0.d,.int .i64 r0.e.ts,.int .i64 r0.e.seq,.int .i64 r0.e.kind,.slice r0.D r0.e.val.length r0.q]):=Lib.hid fun z hz=>by
    have h:=OW.rowRange hz (i:=0) rfl hr0
    rwa [Nat.zero_mul] at h
   have HFC:Hid (∀ z,Below wr.heap.size wr z→z.cell? ⟨fb,fo + f * 7,none⟩=some (.slice fr.A fr.e.row.length fr.c)):=Lib.hid fun z hz=>by have h:=HFR.out z hz 0 _ rfl;simpa using h
   have HSU:Hid (q.obs.Sublist (entsO (some ⟨hg,0,none⟩) rs2.length hc rs2 ++ (c2.obs q ++ q.obs))):=Lib.hid ((List.sublist_append_right _ _).trans (List.sublist_append_right _ _))
   have q9:(i:Int) - (f:Int)=(rs2.length:Int):=by have h:=HHE.out;omega
   have w9:IntKind.i64.wrap (rs2.length:Int)=(rs2.length:Int):=i64_sum (by omega) (by have h:=HHE.out;omega)
   have e9:((rs2.length:Int) == (rs2.length:Int))=true:=by simp
   have e10:(rs2.length == rs2.length)=true:=by simp
   have i2:(0:Int) < (rs2.length:Int):=by omega
   clear hr0 hcp
   refine lt_start [] (by kernel_rfl) ?_
   intro xd hd
   refine ⟨fun z=>OW wr (entsO (some ⟨hg,0,none⟩) rs2.length hc rs2 ++ (c2.obs q ++ q.obs)) z,?_⟩
   have HS:=Lib.hid (HZ2.out.later hd)
   refine lp2 0 rfl (fun _=>HS.out) ?_
   simp only [Act.put,ls]
   refine lp2 1 rfl (fun _=>HS.out) ?_
   simp only [Act.put,ls]
   refine lp2 2 rfl (fun _=>HS.out) ?_
   simp only [Act.put,ls]
   refine lp2 3 rfl (fun _=>HS.out) ?_
   simp only [Act.put,ls]
   refine lp2 4 rfl (fun _=>HS.out) ?_
   simp only [Act.put,ls]
   refine lp2 5 rfl (fun _=>HS.out) ?_
   simp only [Act.put,ls]
   refine lp2 6 rfl (fun _=>HS.out) ?_
   simp only [Act.put,ls]
   refine lp2 7 rfl (fun _=>HS.out) ?_
   simp only [Act.put,ls]
   refine lp2 8 rfl (fun _=>HS.out) ?_
   simp only [Act.put,ls]
   refine lp2 9 rfl (fun _=>HS.out) ?_
   simp only [Act.put,ls]
   refine lp2 10 rfl (fun _=>HS.out) ?_
   simp only [Act.put,ls]
   refine lp2 11 rfl (fun _=>HS.out) ?_
   simp only [Act.put,ls]
   refine lp2 12 rfl (fun _=>HS.out) ?_
   simp only [Act.put,ls]
   refine lq 13 [18,19,20,21,22,23,24,25,26,27,28,29,30,31,32] rfl (yi_rowO rfl rfl rfl (fun w hS=>HR0.out _ hS) ent_row5) HS.out ?_
   simp only [Act.put,ls]
   refine lp2 14 rfl (fun _=>HS.out) ?_
   simp only [Act.put,ls]
   refine lp2 15 rfl (fun _=>HS.out) ?_
   simp only [Act.put,ls]
   refine lp2 16 rfl (fun _=>HS.out) ?_
   simp only [Act.put,ls]
   refine lq 17 [18,19,20,21,22,23,24,25,26,27,28,29,30,31,32] rfl (yi_rowO rfl rfl rfl (fun w hS=>HFR.out _ (OW.up hS)) ent_row5) HS.out ?_
   simp only [Act.put,ls]
   refine lt_call 18 rfl (by kernel_rfl) rfl rfl ⟨_,Tryz.func36,by decide,by kernel_rfl⟩ [.agg #[.slice r0.A r0.e.row.length r0.c,.int .i64 r0.e.fam,.slice r0.B r0.e.qual.length r0.d,.int .i64 r0.e.ts,.int .i64 r0.e.seq,.int .i64 r0.e.kind,.slice r0.D r0.e.val.length r0.q],.agg #[.slice fr.A fr.e.row.length fr.c,.int .i64 fr.e.fam,.slice fr.B fr.e.qual.length fr.d,.int .i64 fr.e.ts,.int .i64 fr.e.seq,.int .i64 fr.e.kind,.slice fr.D fr.e.val.length fr.q]] rfl ?_
   refine (same7_any r0 fr _ (HE0.out _ HS.out) (HFE.out _ HS.out.up)).mono ?_
   rintro r y3 ⟨bo,rfl,hbo,hb⟩
   obtain rfl:=hbo.2 HRE.out
   replace HS:=Lib.hid (HS.out.later hb)
   clear hb hbo
   refine ⟨_,rfl,fun _=>HS.out,?_⟩
   simp only [Act.put,ls]
   refine lp2 19 rfl (fun _=>HS.out) ?_
   simp only [Act.put,ls]
   refine lp2 20 rfl (fun _=>HS.out) ?_
   simp only [Act.put,ls]
   refine lp2 21 rfl (fun _=>HS.out) ?_
   simp only [Act.put,ls]
   refine lp2 22 rfl (fun _=>HS.out) ?_
   simp only [Act.put,ls]
   refine lp2 23 rfl (fun _=>HS.out) ?_
   simp only [Act.put,ls]
   refine lp2 24 rfl (fun _=>HS.out) ?_
   simp only [Act.put,ls]
   refine lp2 25 rfl (fun _=>HS.out) ?_
   simp only [Act.put,ls]
   refine lq 26 [27,28,29,30,31,32] rfl (yi_cell rfl rfl rfl (fun w hS=>HFC.out _ (OW.up hS)) Tryz.isAgg34) HS.out ?_
   simp only [Act.put,ls]
   refine lt_call 27 rfl (by kernel_rfl) rfl rfl ⟨_,Tryz.func37,by decide,by kernel_rfl⟩ [.pointer (some ⟨q.g,0,none⟩),.slice fr.A fr.e.row.length fr.c] rfl ?_
   refine (may_any q _ (RunAt.of HQ.out.2.ok HS.out HSU.out) HQ.out.2 fr.e.row fr.A _ fr.c (HFE.out _ HS.out.up).row).mono ?_
   rw [HQ.out.1,HMY.out]
   rintro r y4 ⟨rfl,hb⟩
   replace HS:=Lib.hid (HS.out.later hb)
   clear hb
   refine ⟨_,rfl,fun _=>HS.out,?_⟩
   simp only [Act.put,ls]
   refine lp2 28 rfl (fun _=>HS.out) ?_
   simp only [Act.put,ls]
   refine lp2 29 rfl (fun _=>HS.out) ?_
   simp only [Act.put,ls]
   refine lt_call 30 rfl (by kernel_rfl) rfl rfl ⟨_,Tryz.func24,by decide,by kernel_rfl⟩ [] rfl ?_
   refine (started_any _ (HTB.out _ (HWB.out.trans (HS.out.up.mono HWB.out.size)))).mono ?_
   rintro r y5 ⟨rfl,hb⟩
   replace HS:=Lib.hid (HS.out.later hb)
   clear hb
   refine ⟨_,rfl,fun _=>HS.out,?_⟩
   simp only [Act.put,ls]
   refine lp2 31 rfl (fun _=>HS.out) ?_
   simp only [Act.put,ls]
   refine lp2 32 rfl (fun _=>HS.out) ?_
   simp only [Act.put,ls]
   refine lt_done (by kernel_rfl) ?_
   replace HZ2:=HS
   clear HS
   go_wp2_with fail
   go_ret
   exact ⟨rfl,HWB.out.trans (HZ2.out.up.mono HWB.out.size)⟩
end Go.Proofs.YtfdbcfaeiglbeaaGreatDoor
