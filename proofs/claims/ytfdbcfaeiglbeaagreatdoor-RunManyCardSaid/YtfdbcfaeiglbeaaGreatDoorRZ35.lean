/-
 RunL2.
-/
import Derived.Test.YtfdbcfaeiglbeaaGreatDoorRZ19
import Derived.Test.YtfdbcfaeiglbeaaGreatDoorRZ24
namespace Go.Proofs.YtfdbcfaeiglbeaaGreatDoor
open Go.RowKit
theorem ent_ext {a b:Ent} (h1:a.fam=b.fam) (h2:a.ts=b.ts) (h3:a.seq=b.seq) (h4:a.kind=b.kind) (h5:a.row=b.row) (h6:a.qual=b.qual) (h7:a.val=b.val):a=b:=by
 cases a;cases b;simp only at h1 h2 h3 h4 h5 h6 h7;subst h1;subst h2;subst h3;subst h4;subst h5;subst h6;subst h7;rfl
def firstE:Ent:=⟨[97],0,[113],7,33,1,[118]⟩
theorem Ens.er3 {w:World} {A:Option Addr} {n:Nat} {L:List Ent} (h:∀ z,Below w.heap.size w z→Ens z A n L) {k:Nat} (hk:k < n):∃ (b o:Nat) (r:ER),A=some ⟨b,o,none⟩∧b < w.heap.size∧L[k]?=some r.e∧(∀ z,Below w.heap.size w z→z.rangeAt b (o + k * 7) r.cells)∧∀ z,Below w.heap.size w z→r.En z:=by
 obtain ⟨b,o,r,h1,h2,h3,h4,h5⟩:=(h w (Below.refl _ _)).er hk
 exact ⟨b,o,r,h1,h2,h3,fun z hz j v hj=>(hz.cell (p:=⟨b,_,none⟩) h2).trans (h4 j v hj),fun z hz=>h5.later hz⟩
def SamP (a b:Ent) (w:World) (r:Ending) (z:World):Prop:=∃ bo:Bool,r = .returned (.bool bo)∧(bo=true↔a=b)∧Below w.heap.size w z
set_option maxRecDepth 1000000 in
set_option maxHeartbeats 8000000 in
theorem same7_any (a b:ER) (w:World) (ha:a.En w) (hb:b.En w):Calls Tryz.prog 36 #[.agg #[.slice a.A a.e.row.length a.c,.int .i64 a.e.fam,.slice a.B a.e.qual.length a.d,.int .i64 a.e.ts,.int .i64 a.e.seq,.int .i64 a.e.kind,.slice a.D a.e.val.length a.q],.agg #[.slice b.A b.e.row.length b.c,.int .i64 b.e.fam,.slice b.B b.e.qual.length b.d,.int .i64 b.e.ts,.int .i64 b.e.seq,.int .i64 b.e.kind,.slice b.D b.e.val.length b.q]] w (SamP a.e b.e w):=by
 have HX:=Lib.hid (OW.nil w)
 have HA:Hid (∀ z,Below w.heap.size w z→a.En z):=Lib.hid fun z hz=>ha.later hz
 have HB:Hid (∀ z,Below w.heap.size w z→b.En z):=Lib.hid fun z hz=>hb.later hz
 clear ha hb
 have tok1:True:=trivial
 have tok2:True:=trivial
 go_enter Tryz.func36,Tryz.ntmps36
 go_upto_region 1 with (first
  | (refine wl_box rfl (.tmp 0) rfl [.slice a.A a.e.row.length a.c,.int .i64 a.e.fam,.slice a.B a.e.qual.length a.d,.int .i64 a.e.ts,.int .i64 a.e.seq,.int .i64 a.e.kind,.slice a.D a.e.val.length a.q] rfl HX.out ?_;intro g1 x1 hz _;have HX1:Hid (OW w [boxO g1 [.slice a.A a.e.row.length a.c,.int .i64 a.e.fam,.slice a.B a.e.qual.length a.d,.int .i64 a.e.ts,.int .i64 a.e.seq,.int .i64 a.e.kind,.slice a.D a.e.val.length a.q]] x1):=Lib.hid hz;clear hz HX)
  | (refine wl_box rfl (.tmp 1) rfl [.slice b.A b.e.row.length b.c,.int .i64 b.e.fam,.slice b.B b.e.qual.length b.d,.int .i64 b.e.ts,.int .i64 b.e.seq,.int .i64 b.e.kind,.slice b.D b.e.val.length b.q] rfl HX1.out ?_;intro g2 x2 hz _;have HX2:Hid (OW w [boxO g1 [.slice a.A a.e.row.length a.c,.int .i64 a.e.fam,.slice a.B a.e.qual.length a.d,.int .i64 a.e.ts,.int .i64 a.e.seq,.int .i64 a.e.kind,.slice a.D a.e.val.length a.q],boxO g2 [.slice b.A b.e.row.length b.c,.int .i64 b.e.fam,.slice b.B b.e.qual.length b.d,.int .i64 b.e.ts,.int .i64 b.e.seq,.int .i64 b.e.kind,.slice b.D b.e.val.length b.q]] x2):=Lib.hid hz;clear hz HX1))
 have ca0:=HX2.out.cell (i:=0) (j:=0) rfl rfl
 have ca1:=HX2.out.cell (i:=0) (j:=1) rfl rfl
 have ca2:=HX2.out.cell (i:=0) (j:=2) rfl rfl
 have ca3:=HX2.out.cell (i:=0) (j:=3) rfl rfl
 have ca4:=HX2.out.cell (i:=0) (j:=4) rfl rfl
 have ca5:=HX2.out.cell (i:=0) (j:=5) rfl rfl
 have ca6:=HX2.out.cell (i:=0) (j:=6) rfl rfl
 have cb0:=HX2.out.cell (i:=1) (j:=0) rfl rfl
 have cb1:=HX2.out.cell (i:=1) (j:=1) rfl rfl
 have cb2:=HX2.out.cell (i:=1) (j:=2) rfl rfl
 have cb3:=HX2.out.cell (i:=1) (j:=3) rfl rfl
 have cb4:=HX2.out.cell (i:=1) (j:=4) rfl rfl
 have cb5:=HX2.out.cell (i:=1) (j:=5) rfl rfl
 have cb6:=HX2.out.cell (i:=1) (j:=6) rfl rfl
 by_cases q_fam:a.e.fam=b.e.fam
 case neg =>
  have d_fam:(a.e.fam == b.e.fam)=false:=beq_eq_false_iff_ne.2 q_fam
  have HN:Hid (a.e ≠ b.e):=Lib.hid fun h=>q_fam (by rw [h])
  clear q_fam
  go_wp2_with fail
  go_ret
  exact ⟨false,rfl,⟨(fun h=>nomatch h),fun h=>absurd h HN.out⟩,HX2.out.up⟩
 have d_fam:(a.e.fam == b.e.fam)=true:=beq_iff_eq.2 q_fam
 have Q_fam:=Lib.hid q_fam
 clear q_fam
 by_cases q_ts:a.e.ts=b.e.ts
 case neg =>
  have d_ts:(a.e.ts == b.e.ts)=false:=beq_eq_false_iff_ne.2 q_ts
  have HN:Hid (a.e ≠ b.e):=Lib.hid fun h=>q_ts (by rw [h])
  clear q_ts
  go_wp2_with fail
  go_ret
  exact ⟨false,rfl,⟨(fun h=>nomatch h),fun h=>absurd h HN.out⟩,HX2.out.up⟩
 have d_ts:(a.e.ts == b.e.ts)=true:=beq_iff_eq.2 q_ts
 have Q_ts:=Lib.hid q_ts
 clear q_ts
 by_cases q_seq:a.e.seq=b.e.seq
 case neg =>
  have d_seq:(a.e.seq == b.e.seq)=false:=beq_eq_false_iff_ne.2 q_seq
  have HN:Hid (a.e ≠ b.e):=Lib.hid fun h=>q_seq (by rw [h])
  clear q_seq
  go_wp2_with fail
  go_ret
  exact ⟨false,rfl,⟨(fun h=>nomatch h),fun h=>absurd h HN.out⟩,HX2.out.up⟩
 have d_seq:(a.e.seq == b.e.seq)=true:=beq_iff_eq.2 q_seq
 have Q_seq:=Lib.hid q_seq
 clear q_seq
 by_cases q_kind:a.e.kind=b.e.kind
 case neg =>
  have d_kind:(a.e.kind == b.e.kind)=false:=beq_eq_false_iff_ne.2 q_kind
  have HN:Hid (a.e ≠ b.e):=Lib.hid fun h=>q_kind (by rw [h])
  clear q_kind
  go_wp2_with fail
  go_ret
  exact ⟨false,rfl,⟨(fun h=>nomatch h),fun h=>absurd h HN.out⟩,HX2.out.up⟩
 have d_kind:(a.e.kind == b.e.kind)=true:=beq_iff_eq.2 q_kind
 have Q_kind:=Lib.hid q_kind
 clear q_kind
 by_cases q_row:a.e.row=b.e.row
 case neg =>
  have HS0:Hid ((a.e.row == b.e.row)=false):=Lib.hid (beq_eq_false_iff_ne.2 q_row)
  have HN:Hid (a.e ≠ b.e):=Lib.hid fun h=>q_row (by rw [h])
  clear q_row
  go_wp2_with (first
   | (go_at_call 43;have _t:=tok1;clear tok1;go_must (refine (rSame_any a.e.row b.e.row _ _ _ _ _ _ _ (HA.out _ HX2.out.up).row.rb (HB.out _ HX2.out.up).row.rb).mono ?_);rw [HS0.out];rintro e y0 ⟨rfl,rfl⟩))
  go_ret
  exact ⟨false,rfl,⟨(fun h=>nomatch h),fun h=>absurd h HN.out⟩,HX2.out.up⟩
 have HS0:Hid ((a.e.row == b.e.row)=true):=Lib.hid (beq_iff_eq.2 q_row)
 have Q_row:=Lib.hid q_row
 clear q_row
 by_cases q_qual:a.e.qual=b.e.qual
 case neg =>
  have HS1:Hid ((a.e.qual == b.e.qual)=false):=Lib.hid (beq_eq_false_iff_ne.2 q_qual)
  have HN:Hid (a.e ≠ b.e):=Lib.hid fun h=>q_qual (by rw [h])
  clear q_qual
  go_wp2_with (first
   | (go_at_call 43;have _t:=tok1;clear tok1;go_must (refine (rSame_any a.e.row b.e.row _ _ _ _ _ _ _ (HA.out _ HX2.out.up).row.rb (HB.out _ HX2.out.up).row.rb).mono ?_);rw [HS0.out];rintro e y0 ⟨rfl,rfl⟩)
   | (go_at_call 43;have _t:=tok2;clear tok2;go_must (refine (rSame_any a.e.qual b.e.qual _ _ _ _ _ _ _ (HA.out _ HX2.out.up).qual.rb (HB.out _ HX2.out.up).qual.rb).mono ?_);rw [HS1.out];rintro e y1 ⟨rfl,rfl⟩))
  go_ret
  exact ⟨false,rfl,⟨(fun h=>nomatch h),fun h=>absurd h HN.out⟩,HX2.out.up⟩
 have HS1:Hid ((a.e.qual == b.e.qual)=true):=Lib.hid (beq_iff_eq.2 q_qual)
 have Q_qual:=Lib.hid q_qual
 clear q_qual
 by_cases q_val:a.e.val=b.e.val
 case neg =>
  have HS2:Hid ((a.e.val == b.e.val)=false):=Lib.hid (beq_eq_false_iff_ne.2 q_val)
  have HN:Hid (a.e ≠ b.e):=Lib.hid fun h=>q_val (by rw [h])
  clear q_val
  go_wp2_with (first
   | (go_at_call 43;have _t:=tok1;clear tok1;go_must (refine (rSame_any a.e.row b.e.row _ _ _ _ _ _ _ (HA.out _ HX2.out.up).row.rb (HB.out _ HX2.out.up).row.rb).mono ?_);rw [HS0.out];rintro e y0 ⟨rfl,rfl⟩)
   | (go_at_call 43;have _t:=tok2;clear tok2;go_must (refine (rSame_any a.e.qual b.e.qual _ _ _ _ _ _ _ (HA.out _ HX2.out.up).qual.rb (HB.out _ HX2.out.up).qual.rb).mono ?_);rw [HS1.out];rintro e y1 ⟨rfl,rfl⟩)
   | (go_at_call 43;go_must (refine (rSame_any a.e.val b.e.val _ _ _ _ _ _ _ (HA.out _ HX2.out.up).val.rb (HB.out _ HX2.out.up).val.rb).mono ?_);rw [HS2.out];rintro e y2 ⟨rfl,rfl⟩))
  go_ret
  exact ⟨false,rfl,⟨(fun h=>nomatch h),fun h=>absurd h HN.out⟩,HX2.out.up⟩
 have HS2:Hid ((a.e.val == b.e.val)=true):=Lib.hid (beq_iff_eq.2 q_val)
 have Q_val:=Lib.hid q_val
 clear q_val
 go_wp2_with (first
  | (go_at_call 43;have _t:=tok1;clear tok1;go_must (refine (rSame_any a.e.row b.e.row _ _ _ _ _ _ _ (HA.out _ HX2.out.up).row.rb (HB.out _ HX2.out.up).row.rb).mono ?_);rw [HS0.out];rintro e y0 ⟨rfl,rfl⟩)
  | (go_at_call 43;have _t:=tok2;clear tok2;go_must (refine (rSame_any a.e.qual b.e.qual _ _ _ _ _ _ _ (HA.out _ HX2.out.up).qual.rb (HB.out _ HX2.out.up).qual.rb).mono ?_);rw [HS1.out];rintro e y1 ⟨rfl,rfl⟩)
  | (go_at_call 43;go_must (refine (rSame_any a.e.val b.e.val _ _ _ _ _ _ _ (HA.out _ HX2.out.up).val.rb (HB.out _ HX2.out.up).val.rb).mono ?_);rw [HS2.out];rintro e y2 ⟨rfl,rfl⟩))
 go_ret
 exact ⟨true,rfl,⟨fun _=>ent_ext Q_fam.out Q_ts.out Q_seq.out Q_kind.out Q_row.out Q_qual.out Q_val.out,fun _=>rfl⟩,HX2.out.up⟩
set_option maxRecDepth 1000000 in
set_option maxHeartbeats 8000000 in
theorem sameAll_any (L M:List Ent) (A:Option Addr) (n c:Nat) (B:Option Addr) (m d:Nat) (w:World) (hl:Ens w A n L) (hm:Ens w B m M) (hn:n≤1000000000) :
  Calls Tryz.prog 32 #[.slice A n c,.slice B m d] w fun e z=>∃ bo:Bool,e = .returned (.bool bo)∧(bo=true↔L=M)∧Below w.heap.size w z:=by
 have HL:Hid (∀ z,Below w.heap.size w z→Ens z A n L):=Lib.hid fun z hz=>hl.later hz
 have HM:Hid (∀ z,Below w.heap.size w z→Ens z B m M):=Lib.hid fun z hz=>hm.later hz
 have HLL:=Lib.hid hl.len
 have HML:=Lib.hid hm.len
 have HX:=Lib.hid (Below.refl w.heap.size w)
 clear hl hm
 by_cases h:n=m
 case neg =>
  have d1:((n:Int) != (m:Int))=true:=bne_iff_ne.2 (by omega)
  have d2:(n != m)=true:=bne_iff_ne.2 h
  have HN:Hid (L ≠ M):=Lib.hid fun hh=>h (by rw [← HLL.out,← HML.out,hh])
  clear h
  go_enter Tryz.func32,Tryz.ntmps32
  go_wp2_with fail
  go_ret
  exact ⟨false,rfl,⟨(fun h=>nomatch h),fun h=>absurd h HN.out⟩,HX.out⟩
 subst h
 have d1:((n:Int) != (n:Int))=false:=by simp
 have d2:(n != n)=false:=by simp
 go_enter Tryz.func32,Tryz.ntmps32
 go_wp2_with fail
 go_loopw [5] (fun iv wr=>∃ k:Nat,k≤n∧iv = .int .i64 k∧Hid (L.take k=M.take k)∧Hid (Below w.heap.size w wr)) (fun iv _=>n - (intOf iv).toNat)
 case atStart=>exact ⟨0,Nat.zero_le _,rfl,Lib.hid rfl,HX⟩
 case round =>
  clear HX
  obtain ⟨k,hkn,rfl,HTK,HX⟩:=hrel
  by_cases hlt:k < n
  case neg =>
   have hd:decide ((k:Int) < (n:Int))=false:=decide_eq_false (by omega)
   have HEQ:Hid (L=M):=Lib.hid (by
    have h1:=HTK.out
    rwa [take_all (by rw [HLL.out];omega),take_all (by rw [HML.out];omega)] at h1)
   go_wp2_with fail
   go_ret
   exact ⟨true,rfl,⟨fun _=>HEQ.out,fun _=>rfl⟩,HX.out⟩
  have hd:decide ((k:Int) < (n:Int))=true:=decide_eq_true (by omega)
  have i1:(0:Int)≤(k:Int):=by omega
  have i2:(k:Int) < (n:Int):=by omega
  obtain ⟨b1,o1,ra,rfl,hb1,he1,hr1,hA1⟩:=Ens.er3 HL.out hlt
  obtain ⟨b2,o2,rb,rfl,hb2,he2,hr2,hA2⟩:=Ens.er3 HM.out hlt
  have HR1:=Lib.hid hr1
  have HR2:=Lib.hid hr2
  have HA1:=Lib.hid hA1
  have HA2:=Lib.hid hA2
  have HE1:=Lib.hid he1
  have HE2:=Lib.hid he2
  clear hr1 hr2 hA1 hA2 he1 he2 hb1 hb2
  by_cases hq:ra.e=rb.e
  case neg =>
   have HNQ:Hid (L ≠ M):=Lib.hid fun hh=>by
    have h1:=HE1.out
    rw [hh,HE2.out] at h1
    injection h1 with h1
    exact hq h1.symm
   have HQ:Hid (∀ bo:Bool,(bo=true↔ra.e=rb.e)→bo=false):=Lib.hid fun bo hb=>by
    cases bo with
    | false=>rfl
    | true=>exact absurd (hb.1 rfl) hq
   clear hq
   go_upto_region 6 with fail
   refine lt_start [] (by kernel_rfl) ?_
   intro xd hd9
   refine ⟨fun z=>Below w.heap.size w z,?_⟩
   have HS:=Lib.hid (HX.out.trans (hd9.mono HX.out.size))
   refine lp2 0 rfl (fun _=>HS.out) ?_
   simp only [Act.put,ls]
   refine lp2 1 rfl (fun _=>HS.out) ?_
   simp only [Act.put,ls]
   refine lp2 2 rfl (fun _=>HS.out) ?_
   simp only [Act.put,ls]
   refine lq 3 [8,9] rfl (yi_rowO rfl rfl rfl (fun w hS=>HR1.out _ hS) ent_row5) HS.out ?_
   simp only [Act.put,ls]
   refine lp2 4 rfl (fun _=>HS.out) ?_
   simp only [Act.put,ls]
   refine lp2 5 rfl (fun _=>HS.out) ?_
   simp only [Act.put,ls]
   refine lp2 6 rfl (fun _=>HS.out) ?_
   simp only [Act.put,ls]
   refine lq 7 [8,9] rfl (yi_rowO rfl rfl rfl (fun w hS=>HR2.out _ hS) ent_row5) HS.out ?_
   simp only [Act.put,ls]
   refine lt_call 8 rfl (by kernel_rfl) rfl rfl ⟨_,Tryz.func36,by decide,by kernel_rfl⟩ [.agg #[.slice ra.A ra.e.row.length ra.c,.int .i64 ra.e.fam,.slice ra.B ra.e.qual.length ra.d,.int .i64 ra.e.ts,.int .i64 ra.e.seq,.int .i64 ra.e.kind,.slice ra.D ra.e.val.length ra.q],.agg #[.slice rb.A rb.e.row.length rb.c,.int .i64 rb.e.fam,.slice rb.B rb.e.qual.length rb.d,.int .i64 rb.e.ts,.int .i64 rb.e.seq,.int .i64 rb.e.kind,.slice rb.D rb.e.val.length rb.q]] rfl ?_
   refine (same7_any ra rb _ (HA1.out _ HS.out) (HA2.out _ HS.out)).mono ?_
   rintro e z8 ⟨bo,rfl,hbo,hb⟩
   obtain rfl:=HQ.out bo hbo
   replace HS:Hid (Below w.heap.size w z8):=Lib.hid (HS.out.trans (hb.mono HS.out.size))
   clear hb hbo
   refine ⟨_,rfl,fun _=>HS.out,?_⟩
   simp only [Act.put,ls]
   refine lp2 9 rfl (fun _=>HS.out) ?_
   simp only [Act.put,ls]
   refine lt_done (by kernel_rfl) ?_
   have HX9:=HS
   clear HS
   go_wp2_with fail
   go_ret
   exact ⟨false,rfl,⟨(fun h=>nomatch h),fun h=>absurd h HNQ.out⟩,HX9.out⟩
  have HQ:Hid (∀ bo:Bool,(bo=true↔ra.e=rb.e)→bo=true):=Lib.hid fun bo hb=>hb.2 hq
  have HTK2:Hid (L.take (k + 1)=M.take (k + 1)):=Lib.hid (by rw [take_snoc HE1.out,take_snoc HE2.out,HTK.out,hq])
  clear hq
  go_upto_region 6 with fail
  refine lt_start [] (by kernel_rfl) ?_
  intro xd hd9
  refine ⟨fun z=>Below w.heap.size w z,?_⟩
  have HS:=Lib.hid (HX.out.trans (hd9.mono HX.out.size))
  refine lp2 0 rfl (fun _=>HS.out) ?_
  simp only [Act.put,ls]
  refine lp2 1 rfl (fun _=>HS.out) ?_
  simp only [Act.put,ls]
  refine lp2 2 rfl (fun _=>HS.out) ?_
  simp only [Act.put,ls]
  refine lq 3 [8,9] rfl (yi_rowO rfl rfl rfl (fun w hS=>HR1.out _ hS) ent_row5) HS.out ?_
  simp only [Act.put,ls]
  refine lp2 4 rfl (fun _=>HS.out) ?_
  simp only [Act.put,ls]
  refine lp2 5 rfl (fun _=>HS.out) ?_
  simp only [Act.put,ls]
  refine lp2 6 rfl (fun _=>HS.out) ?_
  simp only [Act.put,ls]
  refine lq 7 [8,9] rfl (yi_rowO rfl rfl rfl (fun w hS=>HR2.out _ hS) ent_row5) HS.out ?_
  simp only [Act.put,ls]
  refine lt_call 8 rfl (by kernel_rfl) rfl rfl ⟨_,Tryz.func36,by decide,by kernel_rfl⟩ [.agg #[.slice ra.A ra.e.row.length ra.c,.int .i64 ra.e.fam,.slice ra.B ra.e.qual.length ra.d,.int .i64 ra.e.ts,.int .i64 ra.e.seq,.int .i64 ra.e.kind,.slice ra.D ra.e.val.length ra.q],.agg #[.slice rb.A rb.e.row.length rb.c,.int .i64 rb.e.fam,.slice rb.B rb.e.qual.length rb.d,.int .i64 rb.e.ts,.int .i64 rb.e.seq,.int .i64 rb.e.kind,.slice rb.D rb.e.val.length rb.q]] rfl ?_
  refine (same7_any ra rb _ (HA1.out _ HS.out) (HA2.out _ HS.out)).mono ?_
  rintro e z8 ⟨bo,rfl,hbo,hb⟩
  obtain rfl:=HQ.out bo hbo
  replace HS:Hid (Below w.heap.size w z8):=Lib.hid (HS.out.trans (hb.mono HS.out.size))
  clear hb hbo
  refine ⟨_,rfl,fun _=>HS.out,?_⟩
  simp only [Act.put,ls]
  refine lp2 9 rfl (fun _=>HS.out) ?_
  simp only [Act.put,ls]
  refine lt_done (by kernel_rfl) ?_
  have HX9:=HS
  clear HS
  go_wp2_with fail
  go_roundw
  case rel=>exact ⟨k + 1,by omega,by go_num,HTK2,HX9⟩
  case measure=>simp [intOf];omega
def FirstP (w:World) (r:Ending) (z:World):Prop:=∃ A B D,r = .returned (entV A 1 1 B 1 1 D 1 1 firstE)∧En z A 1 1 B 1 1 D 1 1 firstE∧Below w.heap.size w z
set_option maxRecDepth 100000 in
set_option maxHeartbeats 2000000 in
theorem first_any (w:World):Calls Tryz.prog 39 #[] w (FirstP w):=by
 have kc:=conv_const
 go_enter Tryz.func39,Tryz.ntmps39
 go_wp2
 (try simp only [Exit.inBlock,Exit.then])
 obtain ⟨h1,h2,h3,hb⟩:=three_lits w (.cells #[.slice (some ⟨w.heap.size + 1,0,none⟩) 1 1,.int .i64 0,.slice (some ⟨w.heap.size + 1 + 1,0,none⟩) 1 1,.int .i64 7,.int .i64 33,.int .i64 1,.slice (some ⟨w.heap.size + 1 + 1 + 1,0,none⟩) 1 1] 60) 97 113 118 5 (1,2) _ rfl
 have HB:=(Bxs.one w 60 #[.slice (some ⟨w.heap.size + 1,0,none⟩) 1 1,.int .i64 0,.slice (some ⟨w.heap.size + 1 + 1,0,none⟩) 1 1,.int .i64 7,.int .i64 33,.int .i64 1,.slice (some ⟨w.heap.size + 1 + 1 + 1,0,none⟩) 1 1]).later hb
 refine bodyPost_ret (results_box0 rfl _ _ w.heap.size _ rfl (HB.cells0 rfl) (by kernel_rfl) (by kernel_rfl)) rfl ?_
 exact ⟨_,_,_,rfl,⟨h1,h2,h3⟩,HB.up⟩
def plainO:OptR:=⟨64,10,9,3,5⟩
set_option maxRecDepth 1000000 in
theorem plain_any (w:World):Calls Tryz.prog 84 #[] w fun e z=>e = .returned (.agg #[.int .i64 64,.int .i64 10,.int .i64 9,.int .i64 3,.int .i64 5])∧Below w.heap.size w z:=by
 have HX:=Lib.hid (OW.nil w)
 go_enter Tryz.func84,Tryz.ntmps84
 go_wp2_with (first
  | (refine wl_alloc rfl rfl [.int .i64 0,.int .i64 0,.int .i64 0,.int .i64 0,.int .i64 0] (.inl (by kernel_rfl)) HX.out ?_;intro g0 x0 hz _;have HX0:Hid (OW w [boxO g0 [.int .i64 0,.int .i64 0,.int .i64 0,.int .i64 0,.int .i64 0]] x0):=Lib.hid hz;clear hz HX)
  | (refine wl_put rfl (.tmp 0) (.tmp 1) rfl HX0.out 0 rfl rfl [.int .i64 64,.int .i64 10,.int .i64 9,.int .i64 3,.int .i64 5] rfl rfl (by kernel_rfl) (by simp [Value.oneCell']) ?_;intro x4 hz _;have HX4:=Lib.hid hz;clear hz HX0))
 refine bodyPost_ret (results_rowL rfl _ _ g0 [.int .i64 64,.int .i64 10,.int .i64 9,.int .i64 3,.int .i64 5] rfl (HX4.out.range (i:=0) rfl) (by kernel_rfl) (by kernel_rfl)) rfl ?_
 exact ⟨rfl,HX4.out.up⟩
end Go.Proofs.YtfdbcfaeiglbeaaGreatDoor
