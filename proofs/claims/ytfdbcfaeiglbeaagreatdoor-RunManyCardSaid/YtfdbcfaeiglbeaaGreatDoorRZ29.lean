/-
 RunW5.
-/
import Derived.Test.YtfdbcfaeiglbeaaGreatDoorRZ25
namespace Go.Proofs.YtfdbcfaeiglbeaaGreatDoor
open Go.RowKit
def IdxP (x:List UInt8) (N end':Nat) (w:World) (e:Ending) (z:World):Prop :=
 (∃ (l:List PcR) (A:Option Addr) (m c:Nat) (rs:List PRec),pcsO x N end'=some l∧e = .returned (.tuple #[.slice A m c,.bool true])∧rs.map PRec.p=l∧m=rs.length∧OW w (rowO 137 4 (.slice A m c) m (rs.flatMap PRec.cells)::rs.flatMap PRec.obs) z)∨(pcsO x N end'=none∧(∃ A m c,e = .returned (.tuple #[.slice A m c,.bool false]))∧Below w.heap.size w z)
set_option maxRecDepth 10000000 in
set_option maxHeartbeats 16000000 in
theorem index_any (x:List UInt8) (N end':Nat) (A:Option Addr) (n c:Nat) (w:World) (hs:Sl w A n c x) (hn:n≤100000000) (hN:N≤100000000) (he8:8≤end'∧end'≤100000000) (room:Int) (hroom:room=((end' - 8:Nat):Int)) :
  Calls Tryz.prog 72 #[.slice A n c,.int .i64 N,.int .i64 room] w (IdxP x N end' w):=by
 subst hroom
 have HS:Hid (∀ z,Below w.heap.size w z→Sl z A n c x):=Lib.hid fun z hz=>hs.later hz
 have HL:Hid (x.length=n):=Lib.hid hs.len
 have HX1:Hid (OW w [rowO 137 4 (.slice none 0 0) 0 []] w):=Lib.hid ((OW.nil w).nilRow 137 4)
 obtain ⟨v0,p0,q0,hr0⟩:∃ v p e,readU x 0=(v,p,e):=⟨_,_,_,rfl⟩
 have HR0:=Lib.hid hr0
 have HO:=Lib.hid (pcsO_by (n:=N) (end':=end') hr0)
 have hv0:v0≤18446744073709551615:=by have:=readU_val x 0;rw [hr0] at this;exact Nat.le_of_lt_succ this
 have hzN:=u64_of N (by omega)
 obtain ⟨he81,he82⟩:=he8
 clear hs hr0
 go_enter Tryz.func72,Tryz.ntmps72
 go_upto_region 2 with (go_at_call 137;go_must (refine (ru_any x A n c 0 _ (by omega) (HS.out _ HX1.out.up).rb).mono ?_);rw [HR0.out];rintro e x1 ⟨rfl,rfl⟩)
 by_cases g0:q0=0
 case neg =>
  have m0:((q0:Int) != 0)=true:=bne_iff_ne.2 (by omega)
  have m1:(q0 != 0)=true:=bne_iff_ne.2 g0
  have HN0:Hid (pcsO x N end'=none):=Lib.hid (by rw [HO.out,if_pos (.inl g0)])
  clear g0
  go_wp2_with fail
  go_ret2
  exact .inr ⟨HN0.out,⟨_,_,_,rfl⟩,HX1.out.up⟩
 have m0:((q0:Int) != 0)=false:=by rw [g0];rfl
 have m1:(q0 != 0)=false:=by rw [g0];rfl
 by_cases g1:v0=N
 case neg =>
  have m2:((v0:Int) != (N:Int))=true:=bne_iff_ne.2 (by omega)
  have m3:(v0 != N)=true:=bne_iff_ne.2 g1
  have HN0:Hid (pcsO x N end'=none):=Lib.hid (by rw [HO.out,if_pos (.inr g1)])
  clear g0 g1
  go_wp2_with fail
  go_ret2
  exact .inr ⟨HN0.out,⟨_,_,_,rfl⟩,HX1.out.up⟩
 have m2:((v0:Int) != (N:Int))=false:=by rw [g1];simp
 have m3:(v0 != N)=false:=by rw [g1];simp
 obtain ⟨PF,hPF⟩:∃ z,z=pcsF x end' N p0 8 none:=⟨_,rfl⟩
 have HPO:Hid (pcsO x N end'=idxOk x end' PF):=Lib.hid (by rw [HO.out,if_neg (by rintro (h | h);exact h g0;exact h g1),← hPF])
 have HI0:Hid (PF=pcsG (([]:List PRec).map PRec.p) (pcsF x end' (N - 0) p0 8 (lastB (([]:List PRec).map PRec.p)))):=Lib.hid (by rw [hPF];exact (pcsG_nil _).symm)
 have HP0:Hid (p0≤1000000000):=Lib.hid (by have h:=readU_le x 0;rw [HR0.out,HL.out] at h;exact Nat.le_trans h (by omega))
 clear g0 g1 hPF HO HR0
 go_wp2_with fail
 go_loopw [2,9,11,12,34] (fun ro at_ li fr ii wr=>∃ (i p lo:Nat) (A':Option Addr) (c':Nat) (rs:List PRec),i≤N∧p≤1000000000∧8≤lo∧lo≤end'∧ro = .int .i64 ((end' - lo:Nat):Int)∧at_ = .int .i64 p∧li = .slice A' i c'∧fr = .int .i64 lo∧ii = .int .i64 i∧Hid (rs.length=i)∧Hid (PF=pcsG (rs.map PRec.p) (pcsF x end' (N - i) p lo (lastB (rs.map PRec.p))))∧Hid (OW w (rowO 137 4 (.slice A' i c') i (rs.flatMap PRec.cells)::rs.flatMap PRec.obs) wr)) (fun _ _ _ _ ii _=>N - (intOf ii).toNat)
 case atStart=>exact ⟨0,p0,8,none,0,[],Nat.zero_le _,HP0.out,Nat.le_refl _,he81,rfl,rfl,rfl,rfl,rfl,Lib.hid rfl,HI0,HX1⟩
 case round =>
  clear HX1 HI0 HP0
  obtain ⟨i,p,lo,A',c',rs,hiN,hp9,hlo8,hloe,rfl,rfl,rfl,rfl,rfl,HRL,HPF,HX⟩:=hrel
  by_cases hlt:i < N
  case neg =>
   have hd:decide ((i:Int) < (N:Int))=false:=decide_eq_false (by omega)
   have HEND:Hid (PF=some (rs.map PRec.p,p,lo)):=Lib.hid (by rw [HPF.out,show N - i=0 from by omega];show some (rs.map PRec.p ++ [],p,lo)=_;rw [List.append_nil])
   have HPE:Hid (pcsO x N end'=if p=n∧lo=end' then some (rs.map PRec.p) else none):=Lib.hid (by rw [HPO.out,HEND.out,← HL.out];rfl)
   by_cases g1:p=n
   case neg =>
    have m4:((p:Int) == (n:Int))=false:=beq_eq_false_iff_ne.2 (by omega)
    have m5:(p == n)=false:=beq_eq_false_iff_ne.2 g1
    have HN0:Hid (pcsO x N end'=none):=Lib.hid (by rw [HPE.out,if_neg (fun h=>g1 h.1)])
    clear g1
    go_wp2_with fail
    go_ret2
    exact .inr ⟨HN0.out,⟨_,_,_,rfl⟩,HX.out.up⟩
   have m4:((p:Int) == (n:Int))=true:=by rw [g1];simp
   have m5:(p == n)=true:=by rw [g1];simp
   by_cases g2:lo=end'
   case neg =>
    have m6:(((end' - lo:Nat):Int) == 0)=false:=beq_eq_false_iff_ne.2 (by omega)
    have m7:(end' - lo == 0)=false:=beq_eq_false_iff_ne.2 (by omega)
    have HN0:Hid (pcsO x N end'=none):=Lib.hid (by rw [HPE.out,if_neg (fun h=>g2 h.2)])
    clear g1 g2
    go_wp2_with fail
    go_ret2
    exact .inr ⟨HN0.out,⟨_,_,_,rfl⟩,HX.out.up⟩
   have m6:(((end' - lo:Nat):Int) == 0)=true:=beq_iff_eq.2 (by omega)
   have m7:(end' - lo == 0)=true:=beq_iff_eq.2 (by omega)
   have HN0:Hid (pcsO x N end'=some (rs.map PRec.p)):=Lib.hid (by rw [HPE.out,if_pos ⟨g1,g2⟩])
   clear g1 g2
   go_wp2_with fail
   go_ret2
   exact .inl ⟨_,A',i,c',rs,HN0.out,rfl,rfl,HRL.out.symm,HX.out⟩
  have hd:decide ((i:Int) < (N:Int))=true:=decide_eq_true (by omega)
  obtain ⟨a,p1,e1,h1⟩:∃ a p1 e1,readBy x (p:Int) (x.length:Int)=(a,p1,e1):=⟨_,_,_,rfl⟩
  obtain ⟨b,p2,e2,h2⟩:∃ b p2 e2,readBy x (p1:Int) (x.length:Int)=(b,p2,e2):=⟨_,_,_,rfl⟩
  obtain ⟨sz,p3,e3,h3⟩:∃ v p3 e3,readU x (p2:Int)=(v,p3,e3):=⟨_,_,_,rfl⟩
  have HPC:=Lib.hid (pc1_by (at':=lo) (end':=end') (prev:=lastB (rs.map PRec.p)) h1 h2 h3)
  have HPN:Hid (pc1 x p lo end' (lastB (rs.map PRec.p))=none→pcsO x N end'=none):=Lib.hid fun h=>by rw [HPO.out,HPF.out,show N - i=(N - (i + 1)) + 1 from by omega,pcsF_none h];rfl
  obtain ⟨na,hna⟩:∃ z,z=a.length:=⟨_,rfl⟩
  obtain ⟨nb,hnb⟩:∃ z,z=b.length:=⟨_,rfl⟩
  have HNA:=Lib.hid hna.symm
  have HNB:=Lib.hid hnb.symm
  have hna9:na≤100000000:=by have h:=readBy_le5 x p (x.length:Int);rw [h1,HL.out] at h;rw [hna];exact Nat.le_trans h hn
  have hnb9:nb≤100000000:=by have h:=readBy_le5 x p1 (x.length:Int);rw [h2,HL.out] at h;rw [hnb];exact Nat.le_trans h hn
  have hp39:p3≤1000000000:=by have h:=readU_le x (p2:Int);rw [h3,HL.out] at h;exact Nat.le_trans h (by omega)
  have hsz9:sz≤18446744073709551615:=by have h:=readU_val x (p2:Int);rw [h3] at h;exact Nat.le_of_lt_succ h
  rw [HL.out] at h1 h2
  have H1:=Lib.hid h1
  have H2:=Lib.hid h2
  have H3:=Lib.hid h3
  obtain ⟨ro,hro⟩:∃ z,z=end' - lo:=⟨_,rfl⟩
  have hroe:lo + ro=end':=by omega
  have hro9:ro≤100000000:=by omega
  rw [← hro] at HPC ⊢
  clear h1 h2 h3 hna hnb hro
  go_upto_region 11 with (first
   | (refine wl_alloc rfl rfl [.slice none 0 0,.slice none 0 0,.int .i64 0,.int .i64 0] (.inl (by kernel_rfl)) HX.out ?_;intro g13 y1 hz _;have HY1:Hid (OW w (boxO g13 [.slice none 0 0,.slice none 0 0,.int .i64 0,.int .i64 0]::rowO 137 4 (.slice A' i c') i (rs.flatMap PRec.cells)::rs.flatMap PRec.obs) y1):=Lib.hid (hz.perm (fr_perm _ _));clear hz HX)
   | (go_at_call 138;go_must (refine (rby_any x A n c _ _ _ (HS.out _ HY1.out.up) (by omega) (by omega)).mono ?_);rw [H1.out];rintro e y2 hp;obtain ⟨Aa,ca,rfl,_,ho,hb⟩:=hp.at_ (n:=na) (p':=(p1:Int)) (k':=(e1:Int)) HNA.out rfl rfl;have HY2:Hid (OW w (boxO g13 [.slice none 0 0,.slice none 0 0,.int .i64 0,.int .i64 0]::bytO 5 (Aa,ca,a)::rowO 137 4 (.slice A' i c') i (rs.flatMap PRec.cells)::rs.flatMap PRec.obs) y2):=Lib.hid ((HY1.out.app (OW.byt1 hb ho)).perm (idx_perm _ _ _));clear hp ho hb HY1)
   | (refine wl_put1 rfl (.tmp 45) (.tmp 42) rfl HY2.out 0 rfl 0 rfl (by simp) (.slice Aa na ca) rfl (by kernel_rfl) rfl ?_;intro y3 hz _;have HY3:Hid (OW w (boxO g13 [.slice Aa na ca,.slice none 0 0,.int .i64 0,.int .i64 0]::bytO 5 (Aa,ca,a)::rowO 137 4 (.slice A' i c') i (rs.flatMap PRec.cells)::rs.flatMap PRec.obs) y3):=Lib.hid hz;clear hz HY2))
  by_cases g1:e1=0
  case neg =>
   have m4:((e1:Int) != 0)=true:=bne_iff_ne.2 (by omega)
   have m5:(e1 != 0)=true:=bne_iff_ne.2 g1
   have HN0:Hid (pcsO x N end'=none):=Lib.hid (HPN.out (by rw [HPC.out,if_pos g1]))
   clear g1
   go_wp2_with fail
   go_ret2
   exact .inr ⟨HN0.out,⟨_,_,_,rfl⟩,HY3.out.up⟩
  have m4:((e1:Int) != 0)=false:=by rw [g1];rfl
  have m5:(e1 != 0)=false:=by rw [g1];rfl
  have HPC1:=Lib.hid (HPC.out.trans (if_neg fun h=>h g1))
  clear g1 HPC
  go_upto_region 14 with (first
   | (go_at_call 138;go_must (refine (rby_any x A n c _ _ _ (HS.out _ HY3.out.up) (by omega) (by omega)).mono ?_);rw [H2.out];rintro e y4 hp;obtain ⟨Ab,cb,rfl,_,ho,hb⟩:=hp.at_ (n:=nb) (p':=(p2:Int)) (k':=(e2:Int)) HNB.out rfl rfl;have HY4:Hid (OW w (boxO g13 [.slice Aa na ca,.slice none 0 0,.int .i64 0,.int .i64 0]::bytO 5 (Aa,ca,a)::bytO 5 (Ab,cb,b)::rowO 137 4 (.slice A' i c') i (rs.flatMap PRec.cells)::rs.flatMap PRec.obs) y4):=Lib.hid ((HY3.out.app (OW.byt1 hb ho)).perm (idx_perm2 _ _ _ _));clear hp ho hb HY3)
   | (refine wl_put1 rfl (.tmp 57) (.tmp 54) rfl HY4.out 0 rfl 1 rfl (by simp) (.slice Ab nb cb) rfl (by kernel_rfl) rfl ?_;intro y5 hz _;have HY5:Hid (OW w (boxO g13 [.slice Aa na ca,.slice Ab nb cb,.int .i64 0,.int .i64 0]::bytO 5 (Aa,ca,a)::bytO 5 (Ab,cb,b)::rowO 137 4 (.slice A' i c') i (rs.flatMap PRec.cells)::rs.flatMap PRec.obs) y5):=Lib.hid hz;clear hz HY4))
  by_cases g2:e2=0
  case neg =>
   have m6:((e2:Int) != 0)=true:=bne_iff_ne.2 (by omega)
   have m7:(e2 != 0)=true:=bne_iff_ne.2 g2
   have HN0:Hid (pcsO x N end'=none):=Lib.hid (HPN.out (by rw [HPC1.out,if_pos g2]))
   clear g2
   go_wp2_with fail
   go_ret2
   exact .inr ⟨HN0.out,⟨_,_,_,rfl⟩,HY5.out.up⟩
  have m6:((e2:Int) != 0)=false:=by rw [g2];rfl
  have m7:(e2 != 0)=false:=by rw [g2];rfl
  have HPC2:=Lib.hid (HPC1.out.trans (if_neg fun h=>h g2))
  clear g2 HPC1
  go_upto_region 17 with (go_at_call 137;go_must (refine (ru_any x A n c _ _ (by omega) (HS.out _ HY5.out.up).rb).mono ?_);rw [H3.out];rintro e y6 ⟨rfl,rfl⟩)
  have hzr:=u64_of ro (by omega)
  by_cases g3:e3=0
  case neg =>
   have m8:((e3:Int) != 0)=true:=bne_iff_ne.2 (by omega)
   have m9:(e3 != 0)=true:=bne_iff_ne.2 g3
   have HN0:Hid (pcsO x N end'=none):=Lib.hid (HPN.out (by rw [HPC2.out,if_pos g3]))
   clear g3
   go_wp2_with fail
   go_ret2
   exact .inr ⟨HN0.out,⟨_,_,_,rfl⟩,HY5.out.up⟩
  have m8:((e3:Int) != 0)=false:=by rw [g3];rfl
  have m9:(e3 != 0)=false:=by rw [g3];rfl
  have HPC3:=Lib.hid (HPC2.out.trans (if_neg fun h=>h g3))
  clear g3 HPC2
  by_cases g4:sz=0
  case pos =>
   have ma:((sz:Int) == 0)=true:=by rw [g4];rfl
   have mb:(sz == 0)=true:=by rw [g4];rfl
   have HN0:Hid (pcsO x N end'=none):=Lib.hid (HPN.out (by rw [HPC3.out,if_pos (.inl g4)]))
   clear g4
   go_wp2_with fail
   go_ret2
   exact .inr ⟨HN0.out,⟨_,_,_,rfl⟩,HY5.out.up⟩
  have ma:((sz:Int) == 0)=false:=beq_eq_false_iff_ne.2 (by omega)
  have mb:(sz == 0)=false:=beq_eq_false_iff_ne.2 g4
  by_cases g5:ro < sz
  case pos =>
   have mc:decide ((sz:Int) > (ro:Int))=true:=decide_eq_true (by omega)
   have md:decide (ro < sz)=true:=decide_eq_true g5
   have me:decide ((ro:Int) < (sz:Int))=true:=decide_eq_true (by omega)
   have HN0:Hid (pcsO x N end'=none):=Lib.hid (HPN.out (by rw [HPC3.out,if_pos (.inr g5)]))
   clear g4 g5
   go_wp2_with fail
   go_ret2
   exact .inr ⟨HN0.out,⟨_,_,_,rfl⟩,HY5.out.up⟩
  have mc:decide ((sz:Int) > (ro:Int))=false:=decide_eq_false (by omega)
  have md:decide (ro < sz)=false:=decide_eq_false g5
  have me:decide ((ro:Int) < (sz:Int))=false:=decide_eq_false (by omega)
  have HPC4:=Lib.hid (HPC3.out.trans (if_neg (by rintro (h | h);exact g4 h;exact g5 h)))
  have hszr:sz≤ro:=by omega
  clear g4 g5 HPC3
  obtain ⟨ea,ka,hka⟩:∃ ea ka,ParseKeyE a=(ea,ka):=⟨_,_,rfl⟩
  obtain ⟨eb,kb,hkb⟩:∃ eb kb,ParseKeyE b=(eb,kb):=⟨_,_,rfl⟩
  have HKA:=Lib.hid hka
  have HKB:=Lib.hid hkb
  obtain ⟨cv,hcv⟩:∃ z,z=cmpB a b:=⟨_,rfl⟩
  have HCV:=Lib.hid hcv.symm
  have HPC5:Hid (pc1 x p lo end' (lastB (rs.map PRec.p))=if ka ≠ 0∨kb ≠ 0∨0 < cv then none else if behR (lastB (rs.map PRec.p)) a=true then none else some (⟨a,b,lo,lo + sz⟩,p3)):=Lib.hid (by rw [HPC4.out,hka,hkb,hcv])
  clear hka hkb hcv HPC4
  have tk1:True:=trivial
  go_upto_region 21 with (first
   | (refine wpList_load_cell rfl 34 (.tmp 80) rfl rfl (HY5.out.cell (i:=0) (j:=0) rfl rfl) Tryz.isAgg34 ?_)
   | (go_at_call 92;(have _t:=tk1);go_must (refine (parsekey_any a Aa na ca _ (HY5.out.sl (i:=1) rfl HNA.out) (by omega)).mono ?_);rw [HKA.out];rintro e z1 ⟨Ax,cx,Bx,dx,Dx,qx,rfl,_,hb⟩;have HZ1:=Lib.hid (HY5.out.later hb);clear hb HY5 tk1 _t)
   | (refine wl_alloc rfl rfl [.slice none 0 0,.int .i64 0,.slice none 0 0,.int .i64 0,.int .i64 0,.int .i64 0,.slice none 0 0] (.inl (by kernel_rfl)) HZ1.out ?_;intro g15 z2 hz _;have HZ2:Hid (OW w (boxO g15 [.slice none 0 0,.int .i64 0,.slice none 0 0,.int .i64 0,.int .i64 0,.int .i64 0,.slice none 0 0]::boxO g13 [.slice Aa na ca,.slice Ab nb cb,.int .i64 0,.int .i64 0]::bytO 5 (Aa,ca,a)::bytO 5 (Ab,cb,b)::rowO 137 4 (.slice A' i c') i (rs.flatMap PRec.cells)::rs.flatMap PRec.obs) z2):=Lib.hid (hz.perm (fr_perm _ _));clear hz HZ1)
   | (refine wl_put rfl (.tmp 15) (.tmp 83) rfl HZ2.out 0 rfl rfl [.slice Ax ea.row.length cx,.int .i64 ea.fam,.slice Bx ea.qual.length dx,.int .i64 ea.ts,.int .i64 ea.seq,.int .i64 ea.kind,.slice Dx ea.val.length qx] rfl rfl (by kernel_rfl) (by simp [Value.oneCell']) ?_;intro z3 hz _;have HZ3:Hid (OW w (boxO g13 [.slice Aa na ca,.slice Ab nb cb,.int .i64 0,.int .i64 0]::bytO 5 (Aa,ca,a)::bytO 5 (Ab,cb,b)::rowO 137 4 (.slice A' i c') i (rs.flatMap PRec.cells)::rs.flatMap PRec.obs) z3):=Lib.hid (OW.erase hz 0);clear hz HZ2)
   | (refine wpList_load_cell rfl 34 (.tmp 86) rfl rfl (HZ3.out.cell (i:=0) (j:=1) rfl rfl) Tryz.isAgg34 ?_)
   | (go_at_call 92;go_must (refine (parsekey_any b Ab nb cb _ (HZ3.out.sl (i:=2) rfl HNB.out) (by omega)).mono ?_);rw [HKB.out];rintro e z4 ⟨Ay,cy,By,dy,Dy,qy,rfl,_,hb⟩;have HZ4:=Lib.hid (HZ3.out.later hb);clear hb HZ3)
   | (refine wl_alloc rfl rfl [.slice none 0 0,.int .i64 0,.slice none 0 0,.int .i64 0,.int .i64 0,.int .i64 0,.slice none 0 0] (.inl (by kernel_rfl)) HZ4.out ?_;intro g17 z5 hz _;have HZ5:Hid (OW w (boxO g17 [.slice none 0 0,.int .i64 0,.slice none 0 0,.int .i64 0,.int .i64 0,.int .i64 0,.slice none 0 0]::boxO g13 [.slice Aa na ca,.slice Ab nb cb,.int .i64 0,.int .i64 0]::bytO 5 (Aa,ca,a)::bytO 5 (Ab,cb,b)::rowO 137 4 (.slice A' i c') i (rs.flatMap PRec.cells)::rs.flatMap PRec.obs) z5):=Lib.hid (hz.perm (fr_perm _ _));clear hz HZ4)
   | (refine wl_put rfl (.tmp 17) (.tmp 89) rfl HZ5.out 0 rfl rfl [.slice Ay eb.row.length cy,.int .i64 eb.fam,.slice By eb.qual.length dy,.int .i64 eb.ts,.int .i64 eb.seq,.int .i64 eb.kind,.slice Dy eb.val.length qy] rfl rfl (by kernel_rfl) (by simp [Value.oneCell']) ?_;intro z6 hz _;have HZ6:Hid (OW w (boxO g13 [.slice Aa na ca,.slice Ab nb cb,.int .i64 0,.int .i64 0]::bytO 5 (Aa,ca,a)::bytO 5 (Ab,cb,b)::rowO 137 4 (.slice A' i c') i (rs.flatMap PRec.cells)::rs.flatMap PRec.obs) z6):=Lib.hid (OW.erase hz 0);clear hz HZ5))
  by_cases g6:ka=0
  case neg =>
   have n0:(ka != 0)=true:=bne_iff_ne.2 g6
   have HN0:Hid (pcsO x N end'=none):=Lib.hid (HPN.out (by rw [HPC5.out,if_pos (.inl g6)]))
   clear g6
   go_wp2_with fail
   go_ret2
   exact .inr ⟨HN0.out,⟨_,_,_,rfl⟩,HZ6.out.up⟩
  have n0:(ka != 0)=false:=by rw [g6];rfl
  by_cases g7:kb=0
  case neg =>
   have n1:(kb != 0)=true:=bne_iff_ne.2 g7
   have HN0:Hid (pcsO x N end'=none):=Lib.hid (HPN.out (by rw [HPC5.out,if_pos (.inr (.inl g7))]))
   clear g6 g7
   go_wp2_with fail
   go_ret2
   exact .inr ⟨HN0.out,⟨_,_,_,rfl⟩,HZ6.out.up⟩
  have n1:(kb != 0)=false:=by rw [g7];rfl
  by_cases g8:0 < cv
  case pos =>
   have n2:decide (cv > 0)=true:=decide_eq_true g8
   have n3:decide (0 < cv)=true:=decide_eq_true g8
   have HN0:Hid (pcsO x N end'=none):=Lib.hid (HPN.out (by rw [HPC5.out,if_pos (.inr (.inr g8))]))
   clear g6 g7 g8
   go_wp2_with (first
    | (refine wpList_load_cell rfl 34 (.tmp 98) rfl rfl (HZ6.out.cell (i:=0) (j:=0) rfl rfl) Tryz.isAgg34 ?_)
    | (refine wpList_load_cell rfl 34 (.tmp 100) rfl rfl (HZ6.out.cell (i:=0) (j:=1) rfl rfl) Tryz.isAgg34 ?_)
    | (go_at_call 94;go_must (refine (bcmp_any a b Aa Ab na ca nb cb _ (HZ6.out.sl (i:=1) rfl HNA.out).rb (HZ6.out.sl (i:=2) rfl HNB.out).rb).mono ?_);rw [HCV.out];rintro e z7 ⟨rfl,rfl⟩))
   go_ret2
   exact .inr ⟨HN0.out,⟨_,_,_,rfl⟩,HZ6.out.up⟩
  have n2:decide (cv > 0)=false:=decide_eq_false (by omega)
  have n3:decide (0 < cv)=false:=decide_eq_false g8
  have HPC6:=Lib.hid (HPC5.out.trans (if_neg (by rintro (h | h | h);exact h g6;exact h g7;exact g8 h)))
  clear g6 g7 g8 HPC5
  go_upto_region 23 with (first
   | (refine wpList_load_cell rfl 34 (.tmp 98) rfl rfl (HZ6.out.cell (i:=0) (j:=0) rfl rfl) Tryz.isAgg34 ?_)
   | (refine wpList_load_cell rfl 34 (.tmp 100) rfl rfl (HZ6.out.cell (i:=0) (j:=1) rfl rfl) Tryz.isAgg34 ?_)
   | (go_at_call 94;go_must (refine (bcmp_any a b Aa Ab na ca nb cb _ (HZ6.out.sl (i:=1) rfl HNA.out).rb (HZ6.out.sl (i:=2) rfl HNB.out).rb).mono ?_);rw [HCV.out];rintro e z7 ⟨rfl,rfl⟩))
  have s1:IntKind.i64.wrap (sz:Int)=(sz:Int):=i64_sum (by omega) (by omega)
  have s2:IntKind.i64.wrap ((lo:Int) + (sz:Int))=(lo:Int) + (sz:Int):=i64_sum (by omega) (by omega)
  have s3:IntKind.i64.wrap ((ro:Int) - (sz:Int))=(ro:Int) - (sz:Int):=i64_sum (by omega) (by omega)
  by_cases hi0:i=0
  case pos =>
   have HRS:Hid (rs=[]):=Lib.hid (List.eq_nil_of_length_eq_zero (by rw [HRL.out];exact hi0))
   have HPC7:Hid (pc1 x p lo end' (lastB (rs.map PRec.p))=some (⟨a,b,lo,lo + sz⟩,p3)):=Lib.hid (by rw [HPC6.out,HRS.out];exact if_neg (by intro h;cases h))
   have dI:decide ((i:Int) > 0)=false:=decide_eq_false (by omega)
   have i9:¬ 0 < i:=by omega
   have dI2:decide (0 < i)=false:=decide_eq_false i9
   clear hi0 HPC6
   refine lt_start [] (by kernel_rfl) ?_
   intro xd hd
   refine ⟨fun z=>OW w (boxO g13 [.slice Aa na ca,.slice Ab nb cb,.int .i64 0,.int .i64 0]::bytO 5 (Aa,ca,a)::bytO 5 (Ab,cb,b)::rowO 137 4 (.slice A' i c') i (rs.flatMap PRec.cells)::rs.flatMap PRec.obs) z,?_⟩
   have HS:=Lib.hid (HZ6.out.later hd)
   refine lp2 0 rfl (fun _=>HS.out) ?_
   simp only [Act.put,ls]
   refine lp2 1 rfl (fun _=>HS.out) ?_
   simp only [Act.put,ls]
   refine lp2 2 rfl (fun _=>HS.out) ?_
   simp only [Act.put,ls]
   refine lp2 3 rfl (fun _=>HS.out) ?_
   simp only [Act.put,ls]
   refine lk 4 rfl (fun _=>HS.out) ?_
   simp only [Act.put,ls]
   refine lk 5 rfl (fun _=>HS.out) ?_
   simp only [Act.put,ls]
   refine lk 6 rfl (fun _=>HS.out) ?_
   simp only [Act.put,ls]
   refine lk 7 rfl (fun _=>HS.out) ?_
   simp only [Act.put,ls]
   refine lk 8 rfl (fun _=>HS.out) ?_
   simp only [Act.put,ls]
   refine lk 9 rfl (fun _=>HS.out) ?_
   simp only [Act.put,ls]
   refine lk 10 rfl (fun _=>HS.out) ?_
   simp only [Act.put,ls]
   refine lk 11 rfl (fun _=>HS.out) ?_
   simp only [Act.put,ls]
   refine lk 12 rfl (fun _=>HS.out) ?_
   simp only [Act.put,ls]
   refine lk 13 rfl (fun _=>HS.out) ?_
   simp only [Act.put,ls]
   refine lk 14 rfl (fun _=>HS.out) ?_
   simp only [Act.put,ls]
   refine lp2 15 rfl (fun _=>HS.out) ?_
   simp only [Act.put,ls]
   refine lt_done (by kernel_rfl) ?_
   replace HZ6:=Lib.hid HS.out
   clear HS
   go_wp2_with (first
    | (refine wl_put1 rfl (.tmp 126) (.tmp 121) rfl HZ6.out 0 rfl 2 rfl (by simp) (.int .i64 (lo:Nat)) rfl (by kernel_rfl) rfl ?_;intro u1 hz _;have HU1:Hid (OW w (boxO g13 [.slice Aa na ca,.slice Ab nb cb,.int .i64 lo,.int .i64 0]::bytO 5 (Aa,ca,a)::bytO 5 (Ab,cb,b)::rowO 137 4 (.slice A' i c') i (rs.flatMap PRec.cells)::rs.flatMap PRec.obs) u1):=Lib.hid hz;clear hz HZ6)
    | (refine wl_put1 rfl (.tmp 127) (.tmp 125) rfl HU1.out 0 rfl 3 rfl (by simp) (.int .i64 ((lo:Int) + (sz:Int))) rfl (by kernel_rfl) rfl ?_;intro u2 hz _;have HU2:Hid (OW w (boxO g13 [.slice Aa na ca,.slice Ab nb cb,.int .i64 lo,.int .i64 (lo + sz:Nat)]::bytO 5 (Aa,ca,a)::bytO 5 (Ab,cb,b)::rowO 137 4 (.slice A' i c') i (rs.flatMap PRec.cells)::rs.flatMap PRec.obs) u2):=Lib.hid hz;clear hz HU1)
    | (refine wpList_load_cell rfl 3 (.tmp 128) rfl rfl (HU2.out.cell (i:=0) (j:=3) rfl rfl) Tryz.isAgg3 ?_)
    | (refine wl_rowR rfl 137 (.tmp 13) rfl rfl (HU2.out.range (i:=0) rfl) part_row ?_)
    | (refine wl_build rfl #[(0,.tmp 135)] rfl #[.slice Aa na ca,.slice Ab nb cb,.int .i64 lo,.int .i64 (lo + sz:Nat)] Tryz.partS (.agg #[.slice none 0 0,.slice none 0 0,.int .i64 0,.int .i64 0]) (by kernel_rfl) (by decide) (by decide) (by decide) rfl (by kernel_rfl) HU2.out ?_;intro g9 u3 hz _;have HU3:Hid (OW w (rowO 137 4 (.slice (some ⟨g9,0,none⟩) 1 1) 1 [.slice Aa na ca,.slice Ab nb cb,.int .i64 lo,.int .i64 (lo + sz:Nat)]::boxO g13 [.slice Aa na ca,.slice Ab nb cb,.int .i64 lo,.int .i64 (lo + sz:Nat)]::bytO 5 (Aa,ca,a)::bytO 5 (Ab,cb,b)::rowO 137 4 (.slice A' i c') i (rs.flatMap PRec.cells)::rs.flatMap PRec.obs) u3):=Lib.hid (hz.perm (fr_perm _ _));clear hz HU2)
    | (at_builtin;go_must (refine wl_append rfl (.tmp 134) (.tmp 136) rfl Tryz.partS HU3.out 4 rfl rfl _ (some ⟨g9,0,none⟩) 1 1 [.slice Aa na ca,.slice Ab nb cb,.int .i64 lo,.int .i64 (lo + sz:Nat)] rfl (Reads.own (HU3.out.row (i:=0) rfl)) (by simp [Value.oneCell']) (by unfold maxLen;omega) (by omega) ?_);intro A9 c9 u4 hz _;have HU4:=Lib.hid hz;clear hz HU3))
   have HFIN:Hid (OW w (rowO 137 4 (.slice A9 (i + 1) c9) (i + 1) ((rs ++ [(⟨Aa,ca,Ab,cb,⟨a,b,lo,lo + sz⟩⟩:PRec)]).flatMap PRec.cells)::(rs ++ [(⟨Aa,ca,Ab,cb,⟨a,b,lo,lo + sz⟩⟩:PRec)]).flatMap PRec.obs) u4):=Lib.hid (by
    have h:=(HU4.out.perm (idx_fin _ _ _ _ _ _)).left
    rw [pcells_snoc,pobs_snoc]
    show OW w (rowO 137 4 (.slice A9 (i + 1) c9) (i + 1) (rs.flatMap PRec.cells ++ [.slice Aa a.length ca,.slice Ab b.length cb,.int .i64 lo,.int .i64 (lo + sz:Nat)])::(rs.flatMap PRec.obs ++ [bytO 5 (Aa,ca,a),bytO 5 (Ab,cb,b)])) u4
    rw [HNA.out,HNB.out]
    exact h)
   have HPF2:Hid (PF=pcsG ((rs ++ [(⟨Aa,ca,Ab,cb,⟨a,b,lo,lo + sz⟩⟩:PRec)]).map PRec.p) (pcsF x end' (N - (i + 1)) p3 (lo + sz) (lastB ((rs ++ [(⟨Aa,ca,Ab,cb,⟨a,b,lo,lo + sz⟩⟩:PRec)]).map PRec.p)))):=Lib.hid (by
    rw [HPF.out,show N - i=(N - (i + 1)) + 1 from by omega,pcsF_some HPC7.out,lastB_snoc,List.map_append];rfl)
   have HRL2:Hid ((rs ++ [(⟨Aa,ca,Ab,cb,⟨a,b,lo,lo + sz⟩⟩:PRec)]).length=i + 1):=Lib.hid (by rw [List.length_append,HRL.out];rfl)
   go_roundw
   case rel=>exact ⟨i + 1,p3,lo + sz,A9,c9,rs ++ [(⟨Aa,ca,Ab,cb,⟨a,b,lo,lo + sz⟩⟩:PRec)],by omega,hp39,by omega,by omega,by go_num,rfl,by go_num,by go_num,by go_num,HRL2,HPF2,HFIN⟩
   case measure=>simp [intOf];omega
  have i9:0 < i:=by omega
  have i1:(1:Int)≤(i:Int):=by omega
  have dI:decide ((i:Int) > 0)=true:=decide_eq_true (by omega)
  have dI2:decide (0 < i)=true:=decide_eq_true i9
  have s4:IntKind.i64.wrap ((i:Int) - 1)=(i:Int) - 1:=i64_sum (by omega) (by omega)
  have i2:((i:Int) - 1).toNat=i - 1:=by omega
  have i3:(0:Int)≤(i:Int) - 1:=by omega
  have i4:(i:Int) - 1 < (i:Int):=by omega
  obtain ⟨r,hr⟩:∃ r,rs[i - 1]?=some r:=⟨_,List.getElem?_eq_getElem (by have:=HRL.out;omega)⟩
  have HR:=Lib.hid hr
  have HLB:Hid (lastB (rs.map PRec.p)=some r.p.b):=Lib.hid (by unfold lastB;rw [List.getLast?_eq_getElem?,List.length_map,HRL.out,List.getElem?_map,hr];rfl)
  obtain ⟨gm,mcap,hv,_⟩:=own_form (HZ6.out.row (i:=3) rfl) i9
  injection hv with hv _ hcp
  subst hv hcp
  obtain ⟨cw,hcw⟩:∃ z,z=cmpB r.p.b a:=⟨_,rfl⟩
  have HCW:=Lib.hid hcw.symm
  have HPC8:Hid (pc1 x p lo end' (lastB (rs.map PRec.p))=if 0≤cw then none else some (⟨a,b,lo,lo + sz⟩,p3)):=Lib.hid (by rw [HPC6.out,HLB.out,hcw];show (if decide (0≤cmpB r.p.b a)=true then _ else _)=_;simp only [decide_eq_true_eq])
  have HRM:Hid (bytO 5 (r.B,r.d,r.p.b) ∈ rs.flatMap PRec.obs):=Lib.hid (List.mem_flatMap.2 ⟨r,List.mem_of_getElem? hr,.tail _ (.head _)⟩)
  clear hr hcw HPC6
  refine lt_start [] (by kernel_rfl) ?_
  intro xd hd
  refine ⟨fun z=>OW w (boxO g13 [.slice Aa na ca,.slice Ab nb cb,.int .i64 0,.int .i64 0]::bytO 5 (Aa,ca,a)::bytO 5 (Ab,cb,b)::rowO 137 4 (.slice (some ⟨gm,0,none⟩) i c') i (rs.flatMap PRec.cells)::rs.flatMap PRec.obs) z,?_⟩
  have HS:=Lib.hid (HZ6.out.later hd)
  refine lp2 0 rfl (fun _=>HS.out) ?_
  simp only [Act.put,ls]
  refine lp2 1 rfl (fun _=>HS.out) ?_
  simp only [Act.put,ls]
  refine lp2 2 rfl (fun _=>HS.out) ?_
  simp only [Act.put,ls]
  refine lp2 3 rfl (fun _=>HS.out) ?_
  simp only [Act.put,ls]
  refine lp2 4 rfl (fun _=>HS.out) ?_
  simp only [Act.put,ls]
  refine lp2 5 rfl (fun _=>HS.out) ?_
  simp only [Act.put,ls]
  refine lp2 6 rfl (fun _=>HS.out) ?_
  simp only [Act.put,ls]
  refine lp2 7 rfl (fun _=>HS.out) ?_
  simp only [Act.put,ls]
  refine lp2 8 rfl (fun _=>HS.out) ?_
  simp only [Act.put,ls]
  refine lp2 9 rfl (fun _=>HS.out) ?_
  simp only [Act.put,ls]
  refine lq 10 [13,14,15] rfl (yi_cell rfl rfl rfl (fun w hS=>prow_cell (j:=1) hS (.tail _ (.tail _ (.tail _ (.head _)))) HR.out rfl) Tryz.isAgg34) HS.out ?_
  simp only [Act.put,ls]
  refine lp2 11 rfl (fun _=>HS.out) ?_
  simp only [Act.put,ls]
  refine lq 12 [13,14,15] rfl (yi_cell rfl rfl rfl (fun w hS=>OW.cell hS (i:=0) (j:=0) rfl rfl) Tryz.isAgg34) HS.out ?_
  simp only [Act.put,ls]
  refine lt_call 13 rfl (by kernel_rfl) rfl rfl ⟨_,Tryz.func94,by decide,by kernel_rfl⟩ [.slice r.B r.p.b.length r.d,.slice Aa na ca] rfl ?_
  refine (bcmp_any r.p.b a r.B Aa _ r.d na ca _ (HS.out.slm (.tail _ (.tail _ (.tail _ (.tail _ HRM.out)))) rfl).rb (HS.out.sl (i:=1) rfl HNA.out).rb).mono ?_
  rw [HCW.out]
  rintro rr z9 ⟨rfl,rfl⟩
  refine ⟨_,rfl,fun _=>HS.out,?_⟩
  simp only [Act.put,ls]
  refine lp2 14 rfl (fun _=>HS.out) ?_
  simp only [Act.put,ls]
  refine lp2 15 rfl (fun _=>HS.out) ?_
  simp only [Act.put,ls]
  refine lt_done (by kernel_rfl) ?_
  replace HZ6:=Lib.hid HS.out
  clear HS
  by_cases hcw:0≤cw
  case pos =>
   have d5:decide (cw ≥ 0)=true:=decide_eq_true hcw
   have d6:decide (0≤cw)=true:=decide_eq_true hcw
   have HN0:Hid (pcsO x N end'=none):=Lib.hid (HPN.out (by rw [HPC8.out,if_pos hcw]))
   go_wp2_with fail
   go_ret2
   exact .inr ⟨HN0.out,⟨_,_,_,rfl⟩,HZ6.out.up⟩
  have d5:decide (cw ≥ 0)=false:=decide_eq_false (by omega)
  have d6:decide (0≤cw)=false:=decide_eq_false hcw
  have HPC7:Hid (pc1 x p lo end' (lastB (rs.map PRec.p))=some (⟨a,b,lo,lo + sz⟩,p3)):=Lib.hid (HPC8.out.trans (if_neg hcw))
  go_wp2_with (first
   | (refine wl_put1 rfl (.tmp 126) (.tmp 121) rfl HZ6.out 0 rfl 2 rfl (by simp) (.int .i64 (lo:Nat)) rfl (by kernel_rfl) rfl ?_;intro u1 hz _;have HU1:Hid (OW w (boxO g13 [.slice Aa na ca,.slice Ab nb cb,.int .i64 lo,.int .i64 0]::bytO 5 (Aa,ca,a)::bytO 5 (Ab,cb,b)::rowO 137 4 (.slice (some ⟨gm,0,none⟩) i c') i (rs.flatMap PRec.cells)::rs.flatMap PRec.obs) u1):=Lib.hid hz;clear hz HZ6)
   | (refine wl_put1 rfl (.tmp 127) (.tmp 125) rfl HU1.out 0 rfl 3 rfl (by simp) (.int .i64 ((lo:Int) + (sz:Int))) rfl (by kernel_rfl) rfl ?_;intro u2 hz _;have HU2:Hid (OW w (boxO g13 [.slice Aa na ca,.slice Ab nb cb,.int .i64 lo,.int .i64 (lo + sz:Nat)]::bytO 5 (Aa,ca,a)::bytO 5 (Ab,cb,b)::rowO 137 4 (.slice (some ⟨gm,0,none⟩) i c') i (rs.flatMap PRec.cells)::rs.flatMap PRec.obs) u2):=Lib.hid hz;clear hz HU1)
   | (refine wpList_load_cell rfl 3 (.tmp 128) rfl rfl (HU2.out.cell (i:=0) (j:=3) rfl rfl) Tryz.isAgg3 ?_)
   | (refine wl_rowR rfl 137 (.tmp 13) rfl rfl (HU2.out.range (i:=0) rfl) part_row ?_)
   | (refine wl_build rfl #[(0,.tmp 135)] rfl #[.slice Aa na ca,.slice Ab nb cb,.int .i64 lo,.int .i64 (lo + sz:Nat)] Tryz.partS (.agg #[.slice none 0 0,.slice none 0 0,.int .i64 0,.int .i64 0]) (by kernel_rfl) (by decide) (by decide) (by decide) rfl (by kernel_rfl) HU2.out ?_;intro g9 u3 hz _;have HU3:Hid (OW w (rowO 137 4 (.slice (some ⟨g9,0,none⟩) 1 1) 1 [.slice Aa na ca,.slice Ab nb cb,.int .i64 lo,.int .i64 (lo + sz:Nat)]::boxO g13 [.slice Aa na ca,.slice Ab nb cb,.int .i64 lo,.int .i64 (lo + sz:Nat)]::bytO 5 (Aa,ca,a)::bytO 5 (Ab,cb,b)::rowO 137 4 (.slice (some ⟨gm,0,none⟩) i c') i (rs.flatMap PRec.cells)::rs.flatMap PRec.obs) u3):=Lib.hid (hz.perm (fr_perm _ _));clear hz HU2)
   | (at_builtin;go_must (refine wl_append rfl (.tmp 134) (.tmp 136) rfl Tryz.partS HU3.out 4 rfl rfl _ (some ⟨g9,0,none⟩) 1 1 [.slice Aa na ca,.slice Ab nb cb,.int .i64 lo,.int .i64 (lo + sz:Nat)] rfl (Reads.own (HU3.out.row (i:=0) rfl)) (by simp [Value.oneCell']) (by unfold maxLen;omega) (by omega) ?_);intro A9 c9 u4 hz _;have HU4:=Lib.hid hz;clear hz HU3))
  have HFIN:Hid (OW w (rowO 137 4 (.slice A9 (i + 1) c9) (i + 1) ((rs ++ [(⟨Aa,ca,Ab,cb,⟨a,b,lo,lo + sz⟩⟩:PRec)]).flatMap PRec.cells)::(rs ++ [(⟨Aa,ca,Ab,cb,⟨a,b,lo,lo + sz⟩⟩:PRec)]).flatMap PRec.obs) u4):=Lib.hid (by
   have h:=(HU4.out.perm (idx_fin _ _ _ _ _ _)).left
   rw [pcells_snoc,pobs_snoc]
   show OW w (rowO 137 4 (.slice A9 (i + 1) c9) (i + 1) (rs.flatMap PRec.cells ++ [.slice Aa a.length ca,.slice Ab b.length cb,.int .i64 lo,.int .i64 (lo + sz:Nat)])::(rs.flatMap PRec.obs ++ [bytO 5 (Aa,ca,a),bytO 5 (Ab,cb,b)])) u4
   rw [HNA.out,HNB.out]
   exact h)
  have HPF2:Hid (PF=pcsG ((rs ++ [(⟨Aa,ca,Ab,cb,⟨a,b,lo,lo + sz⟩⟩:PRec)]).map PRec.p) (pcsF x end' (N - (i + 1)) p3 (lo + sz) (lastB ((rs ++ [(⟨Aa,ca,Ab,cb,⟨a,b,lo,lo + sz⟩⟩:PRec)]).map PRec.p)))):=Lib.hid (by
   rw [HPF.out,show N - i=(N - (i + 1)) + 1 from by omega,pcsF_some HPC7.out,lastB_snoc,List.map_append];rfl)
  have HRL2:Hid ((rs ++ [(⟨Aa,ca,Ab,cb,⟨a,b,lo,lo + sz⟩⟩:PRec)]).length=i + 1):=Lib.hid (by rw [List.length_append,HRL.out];rfl)
  go_roundw
  case rel=>exact ⟨i + 1,p3,lo + sz,A9,c9,rs ++ [(⟨Aa,ca,Ab,cb,⟨a,b,lo,lo + sz⟩⟩:PRec)],by omega,hp39,by omega,by omega,by go_num,rfl,by go_num,by go_num,by go_num,HRL2,HPF2,HFIN⟩
  case measure=>simp [intOf];omega
end Go.Proofs.YtfdbcfaeiglbeaaGreatDoor
