/-
 RunW4.
-/
import Derived.Test.YtfdbcfaeiglbeaaGreatDoorRZ8
import Derived.Test.YtfdbcfaeiglbeaaGreatDoorRZ24
namespace Go.Proofs.YtfdbcfaeiglbeaaGreatDoor
open Go.RowKit
def numC (f:List UInt8) (k:Nat):List Value:=[0,1,2,3,4,5,6].map fun i=>if i < k then .int .i64 (numAt f i) else .int .i64 0
theorem numC_len (f:List UInt8) (k:Nat):(numC f k).length=7:=rfl
theorem numC_set (f:List UInt8) {k:Nat} (hk:k < 7) (u:Value):((numC f k).set k u)=[0,1,2,3,4,5,6].map fun i=>if i < k then .int .i64 (numAt f i) else if i=k then u else .int .i64 0:=by
 rcases (by omega:k=0∨k=1∨k=2∨k=3∨k=4∨k=5∨k=6) with rfl | rfl | rfl | rfl | rfl | rfl | rfl <;> rfl
theorem numC_next (f:List UInt8) {k:Nat} (hk:k < 7):((numC f k).set k (.int .i64 (numAt f k)))=numC f (k + 1):=by
 rcases (by omega:k=0∨k=1∨k=2∨k=3∨k=4∨k=5∨k=6) with rfl | rfl | rfl | rfl | rfl | rfl | rfl <;> rfl
theorem rframe_of (l:List UInt8) (A:Option Addr) (n c:Nat) (a:Int) (k:Nat) (ha:a=(k:Int)) (w:World) (hn:n≤9223372036854775807) (hnc:n≤c) (hc:c≤9223372036854775807) (hA:A=none→c=0) (hr:RB w w.heap.size A n l) (ht:TabAt 0 w) :
  Calls Tryz.prog 132 #[.slice A n c,.int .i64 a] w (BytesPost3 5 (readFA l k).1 ((readFA l k).2.1:Nat) ((readFA l k).2.2:Nat) w):=by subst ha;exact rframe_any l A n c k w hn hnc hc hA hr ht
theorem idxA7 (g k:Nat) (hk:k < 7) (w:World):(Instr.indexAt 127 (.pointer (some ⟨g,0,none⟩)) (.int .i64 (k:Nat))).run Tryz.prog w = .ok (.pointer (some ⟨g,k,none⟩)) w:=by
 rcases (by omega:k=0∨k=1∨k=2∨k=3∨k=4∨k=5∨k=6) with rfl | rfl | rfl | rfl | rfl | rfl | rfl <;> kernel_rfl
theorem wl_idxA {ops:Array Oper} {Q:Exit→Act→World→Prop} {rest:List Oper} {o:Oper} {a:Act} {w:World} {v:Value} (hgd:Region.wanted o (yielded ops a.tmps)=true) (t:TypeId) (x i:Operand) (ho:o.op = .indexAddr t x i) (hrun:(Instr.indexAt t (a.eval x) (a.eval i)).run Tryz.prog w = .ok v w) (hK:wpList Tryz.prog ops Q rest (a.put o.dst v) w):wpList Tryz.prog ops Q (o::rest) a w :=
 BigFrame.wpList_want hgd fun _ hk=>by
  unfold Oper.wp execOp
  simp only [ho,Sem.run_bind,hrun,Result.andThen_ok,Sem.run_pure]
  exact hk _ _ hK
theorem arr_row7:RowTy Tryz.prog 127 7:=by
 exact ⟨⟨_,Tryz.underlying127,rfl⟩,by kernel_rfl⟩
def NumsP (b:List UInt8) (w:World) (e:Ending) (z:World):Prop :=
 (∃ f,footO b=some f∧allOk f=true∧e = .returned (.tuple #[.agg (numC f 7).toArray,.bool true])∧Below w.heap.size w z)∨(numsO b=none∧(∃ vs:List Value,vs.length=7∧(∀ u ∈ vs,u.oneCell'=true)∧e = .returned (.tuple #[.agg vs.toArray,.bool false]))∧Below w.heap.size w z)
theorem nums_no1 {b:List UInt8} (h:footO b=none):numsO b=none:=by unfold numsO;rw [h]
theorem nums_no2 {b f:List UInt8} (h:footO b=some f) {k:Nat} (hk:k < 7) (hn:numOk f k=false):numsO b=none:=by
 unfold numsO
 rw [h]
 have:allOk f=false:=by
  cases ha:allOk f with
  | false=>rfl
  | true =>
   unfold allOk at ha
   rw [List.all_eq_true] at ha
   rw [ha k (List.mem_range.2 hk)] at hn;cases hn
 dsimp only
 rw [this];rfl
theorem all_of {f:List UInt8} (h:∀ k,k < 7→numOk f k=true):allOk f=true:=by
 unfold allOk
 rw [List.all_eq_true]
 exact fun k hk=>h k (List.mem_range.1 hk)
set_option maxRecDepth 1000000 in
set_option maxHeartbeats 16000000 in
theorem numbers_any (b:List UInt8) (A:Option Addr) (n c:Nat) (w:World) (hs:Sl w A n c b) (hn:n≤100000000) (ht:TabAt 0 w) :
  Calls Tryz.prog 66 #[.slice A n c] w (NumsP b w):=by
 have HS:Hid (∀ z,Below w.heap.size w z→Sl z A n c b):=Lib.hid fun z hz=>hs.later hz
 have HTB:Hid (∀ z,Below w.heap.size w z→TabAt 0 z):=Lib.hid fun z hz=>ht.later hz
 have HL:Hid (b.length=n):=Lib.hid hs.len
 have HX:=Lib.hid (OW.nil w)
 have s1:IntKind.i64.wrap ((n:Int) - 68)=(n:Int) - 68:=i64_sum (by omega) (by omega)
 clear hs ht
 go_enter Tryz.func66,Tryz.ntmps66
 go_upto_region 3 with (first
  | (refine wl_alloc rfl rfl [.int .i64 0,.int .i64 0,.int .i64 0,.int .i64 0,.int .i64 0,.int .i64 0,.int .i64 0] (.inl (by kernel_rfl)) HX.out ?_;intro g2 x1 hz _;have HX1:Hid (OW w [boxO g2 [.int .i64 0,.int .i64 0,.int .i64 0,.int .i64 0,.int .i64 0,.int .i64 0,.int .i64 0]] x1):=Lib.hid hz;clear hz HX)
  | (refine wl_alloc rfl rfl [.int .i64 0,.int .i64 0,.int .i64 0,.int .i64 0,.int .i64 0,.int .i64 0,.int .i64 0] (.inl (by kernel_rfl)) HX1.out ?_;intro g4 x2 hz _;have HX2:Hid (OW w [boxO g2 [.int .i64 0,.int .i64 0,.int .i64 0,.int .i64 0,.int .i64 0,.int .i64 0,.int .i64 0],boxO g4 [.int .i64 0,.int .i64 0,.int .i64 0,.int .i64 0,.int .i64 0,.int .i64 0,.int .i64 0]] x2):=Lib.hid hz;clear hz HX1))
 by_cases hlo:n < 68
 case pos =>
  have d1:decide ((n:Int) - 68 < 0)=true:=decide_eq_true (by omega)
  have d2:decide ((n:Int) < 68)=true:=decide_eq_true (by omega)
  have d3:decide (n < 68)=true:=decide_eq_true hlo
  have HN:Hid (numsO b=none):=Lib.hid (nums_no1 (by unfold footO;rw [HL.out,if_pos hlo]))
  go_wp2_with (first
   | (refine wl_rowR rfl 127 (.tmp 4) rfl rfl (HX2.out.range (i:=1) rfl) arr_row7 ?_)
   | (refine wl_put rfl (.tmp 2) (.tmp 15) rfl HX2.out 0 rfl rfl [.int .i64 0,.int .i64 0,.int .i64 0,.int .i64 0,.int .i64 0,.int .i64 0,.int .i64 0] rfl rfl (by kernel_rfl) (by simp [Value.oneCell']) ?_;intro x3 hz _;have HX3:Hid (OW w [boxO g2 [.int .i64 0,.int .i64 0,.int .i64 0,.int .i64 0,.int .i64 0,.int .i64 0,.int .i64 0],boxO g4 [.int .i64 0,.int .i64 0,.int .i64 0,.int .i64 0,.int .i64 0,.int .i64 0,.int .i64 0]] x3):=Lib.hid hz;clear hz HX2))
  refine bodyPost_ret (results_rowL1 rfl _ _ g2 [.int .i64 0,.int .i64 0,.int .i64 0,.int .i64 0,.int .i64 0,.int .i64 0,.int .i64 0] rfl (HX3.out.range (i:=0) rfl) (by kernel_rfl) (by kernel_rfl)) rfl ?_
  exact .inr ⟨HN.out,⟨[.int .i64 0,.int .i64 0,.int .i64 0,.int .i64 0,.int .i64 0,.int .i64 0,.int .i64 0],rfl,(by simp [Value.oneCell']),rfl⟩,HX3.out.up⟩
 have d1:decide ((n:Int) - 68 < 0)=false:=decide_eq_false (by omega)
 have d2:decide ((n:Int) < 68)=false:=decide_eq_false (by omega)
 have d3:decide (n < 68)=false:=decide_eq_false hlo
 obtain ⟨p,hp⟩:∃ p,n=p + 68:=⟨n - 68,by omega⟩
 have HE1:Hid ((n:Int) - 68=(p:Int)):=Lib.hid (by omega)
 obtain ⟨f,ep,er,hr⟩:∃ f ep er,readFA b (p:Int)=(f,ep,er):=⟨_,_,_,rfl⟩
 obtain ⟨fn,hfn⟩:∃ z,z=f.length:=⟨_,rfl⟩
 have HR:=Lib.hid hr
 have HFN:=Lib.hid hfn.symm
 have HF0:Hid (footO b=if er ≠ 0∨ep ≠ n∨fn ≠ 56 then none else some f):=Lib.hid (by unfold footO;rw [HL.out,if_neg hlo,show n - 68=p from by omega,hr,hfn])
 clear hr hfn hlo hp
 go_upto_region 6 with (go_at_call 132;go_must (refine (rframe_of b A n c _ p HE1.out _ (by omega) (HS.out _ HX2.out.up).cap (HS.out _ HX2.out.up).lim (HS.out _ HX2.out.up).nil (HS.out _ HX2.out.up).rb (HTB.out _ HX2.out.up)).mono ?_);rw [HR.out];rintro e x3 hpo;obtain ⟨Af,cf,rfl,hsf,ho,hb⟩:=hpo.at_ (n:=fn) (p':=(ep:Int)) (k':=(er:Int)) HFN.out rfl rfl;have HX3:Hid (OW w [boxO g2 [.int .i64 0,.int .i64 0,.int .i64 0,.int .i64 0,.int .i64 0,.int .i64 0,.int .i64 0],boxO g4 [.int .i64 0,.int .i64 0,.int .i64 0,.int .i64 0,.int .i64 0,.int .i64 0,.int .i64 0],bytO 5 (Af,cf,f)] x3):=Lib.hid (HX2.out.app (OW.byt1 hb ho));clear hpo hsf ho hb HX2)
 by_cases q1:er=0
 case neg =>
  have m1:((er:Int) != 0)=true:=bne_iff_ne.2 (by omega)
  have k1:(er != 0)=true:=bne_iff_ne.2 q1
  have HN:Hid (numsO b=none):=Lib.hid (nums_no1 (by rw [HF0.out,if_pos (.inl q1)]))
  clear q1
  go_wp2_with (first
   | (refine wl_rowR rfl 127 (.tmp 4) rfl rfl (HX3.out.range (i:=1) rfl) arr_row7 ?_)
   | (refine wl_put rfl (.tmp 2) (.tmp 36) rfl HX3.out 0 rfl rfl [.int .i64 0,.int .i64 0,.int .i64 0,.int .i64 0,.int .i64 0,.int .i64 0,.int .i64 0] rfl rfl (by kernel_rfl) (by simp [Value.oneCell']) ?_;intro x4 hz _;have HX4:Hid (OW w [boxO g2 [.int .i64 0,.int .i64 0,.int .i64 0,.int .i64 0,.int .i64 0,.int .i64 0,.int .i64 0],boxO g4 [.int .i64 0,.int .i64 0,.int .i64 0,.int .i64 0,.int .i64 0,.int .i64 0,.int .i64 0],bytO 5 (Af,cf,f)] x4):=Lib.hid hz;clear hz HX3))
  refine bodyPost_ret (results_rowL1 rfl _ _ g2 [.int .i64 0,.int .i64 0,.int .i64 0,.int .i64 0,.int .i64 0,.int .i64 0,.int .i64 0] rfl (HX4.out.range (i:=0) rfl) (by kernel_rfl) (by kernel_rfl)) rfl ?_
  exact .inr ⟨HN.out,⟨[.int .i64 0,.int .i64 0,.int .i64 0,.int .i64 0,.int .i64 0,.int .i64 0,.int .i64 0],rfl,(by simp [Value.oneCell']),rfl⟩,HX4.out.up⟩
 have m1:((er:Int) != 0)=false:=by rw [q1];simp
 have k1:(er != 0)=false:=by rw [q1];simp
 by_cases q2:ep=n
 case neg =>
  have m2:((ep:Int) != (n:Int))=true:=bne_iff_ne.2 (by omega)
  have k2:(ep != n)=true:=bne_iff_ne.2 q2
  have HN:Hid (numsO b=none):=Lib.hid (nums_no1 (by rw [HF0.out,if_pos (.inr (.inl q2))]))
  clear q1 q2
  go_wp2_with (first
   | (refine wl_rowR rfl 127 (.tmp 4) rfl rfl (HX3.out.range (i:=1) rfl) arr_row7 ?_)
   | (refine wl_put rfl (.tmp 2) (.tmp 36) rfl HX3.out 0 rfl rfl [.int .i64 0,.int .i64 0,.int .i64 0,.int .i64 0,.int .i64 0,.int .i64 0,.int .i64 0] rfl rfl (by kernel_rfl) (by simp [Value.oneCell']) ?_;intro x4 hz _;have HX4:Hid (OW w [boxO g2 [.int .i64 0,.int .i64 0,.int .i64 0,.int .i64 0,.int .i64 0,.int .i64 0,.int .i64 0],boxO g4 [.int .i64 0,.int .i64 0,.int .i64 0,.int .i64 0,.int .i64 0,.int .i64 0,.int .i64 0],bytO 5 (Af,cf,f)] x4):=Lib.hid hz;clear hz HX3))
  refine bodyPost_ret (results_rowL1 rfl _ _ g2 [.int .i64 0,.int .i64 0,.int .i64 0,.int .i64 0,.int .i64 0,.int .i64 0,.int .i64 0] rfl (HX4.out.range (i:=0) rfl) (by kernel_rfl) (by kernel_rfl)) rfl ?_
  exact .inr ⟨HN.out,⟨[.int .i64 0,.int .i64 0,.int .i64 0,.int .i64 0,.int .i64 0,.int .i64 0,.int .i64 0],rfl,(by simp [Value.oneCell']),rfl⟩,HX4.out.up⟩
 have m2:((ep:Int) != (n:Int))=false:=by rw [q2];simp
 have k2:(ep != n)=false:=by rw [q2];simp
 by_cases q3:fn=56
 case neg =>
  have m3:((fn:Int) != 56)=true:=bne_iff_ne.2 (by omega)
  have k3:(fn != 56)=true:=bne_iff_ne.2 q3
  have HN:Hid (numsO b=none):=Lib.hid (nums_no1 (by rw [HF0.out,if_pos (.inr (.inr q3))]))
  clear q1 q2 q3
  go_wp2_with (first
   | (refine wl_rowR rfl 127 (.tmp 4) rfl rfl (HX3.out.range (i:=1) rfl) arr_row7 ?_)
   | (refine wl_put rfl (.tmp 2) (.tmp 36) rfl HX3.out 0 rfl rfl [.int .i64 0,.int .i64 0,.int .i64 0,.int .i64 0,.int .i64 0,.int .i64 0,.int .i64 0] rfl rfl (by kernel_rfl) (by simp [Value.oneCell']) ?_;intro x4 hz _;have HX4:Hid (OW w [boxO g2 [.int .i64 0,.int .i64 0,.int .i64 0,.int .i64 0,.int .i64 0,.int .i64 0,.int .i64 0],boxO g4 [.int .i64 0,.int .i64 0,.int .i64 0,.int .i64 0,.int .i64 0,.int .i64 0,.int .i64 0],bytO 5 (Af,cf,f)] x4):=Lib.hid hz;clear hz HX3))
  refine bodyPost_ret (results_rowL1 rfl _ _ g2 [.int .i64 0,.int .i64 0,.int .i64 0,.int .i64 0,.int .i64 0,.int .i64 0,.int .i64 0] rfl (HX4.out.range (i:=0) rfl) (by kernel_rfl) (by kernel_rfl)) rfl ?_
  exact .inr ⟨HN.out,⟨[.int .i64 0,.int .i64 0,.int .i64 0,.int .i64 0,.int .i64 0,.int .i64 0,.int .i64 0],rfl,(by simp [Value.oneCell']),rfl⟩,HX4.out.up⟩
 have m3:((fn:Int) != 56)=false:=by rw [q3];simp
 have k3:(fn != 56)=false:=by rw [q3];simp
 have HF:Hid (footO b=some f):=Lib.hid (by rw [HF0.out,if_neg (by rintro (h | h | h);exact h q1;exact h q2;exact h q3)])
 have hfn9:fn≤100:=by omega
 clear q1 q2 q3
 have HX4:Hid (OW w [boxO g2 [.int .i64 0,.int .i64 0,.int .i64 0,.int .i64 0,.int .i64 0,.int .i64 0,.int .i64 0],boxO g4 (numC f 0),bytO 5 (Af,cf,f)] x3):=Lib.hid HX3.out
 have HAL:Hid (∀ k,k < 0→numOk f k=true):=Lib.hid fun k hk=>absurd hk (Nat.not_lt_zero k)
 clear HX3 HF0 HR
 go_wp2_with fail
 go_loopw [37] (fun kv wr=>∃ k:Nat,k≤7∧kv = .int .i64 k∧Hid (∀ j,j < k→numOk f j=true)∧Hid (OW w [boxO g2 [.int .i64 0,.int .i64 0,.int .i64 0,.int .i64 0,.int .i64 0,.int .i64 0,.int .i64 0],boxO g4 (numC f k),bytO 5 (Af,cf,f)] wr)) (fun kv _=>7 - (intOf kv).toNat)
 case atStart=>exact ⟨0,by decide,rfl,HAL,HX4⟩
 case round =>
  clear HX4 HAL
  obtain ⟨k,hk7,rfl,HAL,HX⟩:=hrel
  by_cases hk:k < 7
  case neg =>
   have dk:decide ((k:Int) < 7)=false:=decide_eq_false (by omega)
   have dk2:decide (k < 7)=false:=decide_eq_false hk
   obtain rfl:k=7:=by omega
   go_wp2_with (first
    | (refine wl_rowR rfl 127 (.tmp 4) rfl rfl (HX.out.range (i:=1) rfl) arr_row7 ?_)
    | (refine wl_put rfl (.tmp 2) (.tmp 54) rfl HX.out 0 rfl rfl (numC f 7) rfl rfl (by kernel_rfl) (by unfold numC;simp [Value.oneCell']) ?_;intro x5 hz _;have HX5:Hid (OW w [boxO g2 (numC f 7),boxO g4 (numC f 7),bytO 5 (Af,cf,f)] x5):=Lib.hid hz;clear hz HX))
   refine bodyPost_ret (results_rowL1 rfl _ _ g2 (numC f 7) rfl (HX5.out.range (i:=0) rfl) (by kernel_rfl) (by kernel_rfl)) rfl ?_
   exact .inl ⟨f,HF.out,all_of HAL.out,rfl,HX5.out.up⟩
  have dk:decide ((k:Int) < 7)=true:=decide_eq_true (by omega)
  have dk2:decide (k < 7)=true:=decide_eq_true hk
  have k0:(0:Int)≤(k:Int):=by omega
  have k1:(k:Int) < 7:=by omega
  have s2:IntKind.i64.wrap (8 * (k:Int))=8 * (k:Int):=i64_sum (by omega) (by omega)
  obtain ⟨v,np,er,hr⟩:∃ v np er,readR f ((8 * k:Nat):Int)=(v,np,er):=⟨_,_,_,rfl⟩
  have HRR:Hid (readR f (8 * (k:Int))=(v,np,er)):=Lib.hid (by rw [← hr];congr 1)
  have HVA:Hid (numAt f k=v):=Lib.hid (by unfold numAt;rw [hr])
  have HOKK:Hid (numOk f k=decide (er=0)):=Lib.hid (by unfold numOk;rw [hr])
  clear hr
  have hsz:(Tryz.prog.types[3]?.map (·.size))=some 1:=by kernel_rfl
  go_upto_region 12 with (first
   | (go_at_call 133;go_must (refine (rr_any f Af fn cf _ _ (HX.out.sl (i:=2) rfl HFN.out) (by omega)).mono ?_);rw [HRR.out];rintro e x4 ⟨rfl,rfl⟩)
   | (refine wl_idxA rfl 127 (.tmp 4) (.tmp 41) rfl (idxA7 g4 k hk _) ?_)
   | (refine wl_put1 rfl (.tmp 49) (.tmp 46) rfl HX.out 1 rfl k rfl (by rw [numC_len];exact hk) (.int .i64 (v:Nat)) rfl (by kernel_rfl) rfl ?_;intro x5 hz _;have HX5:Hid (OW w [boxO g2 [.int .i64 0,.int .i64 0,.int .i64 0,.int .i64 0,.int .i64 0,.int .i64 0,.int .i64 0],boxO g4 ((numC f k).set k (.int .i64 (v:Nat))),bytO 5 (Af,cf,f)] x5):=Lib.hid hz;clear hz HX))
  by_cases he:er=0
  case neg =>
   have d4:((er:Int) != 0)=true:=bne_iff_ne.2 (by omega)
   have d5:(er != 0)=true:=bne_iff_ne.2 he
   have HN:Hid (numsO b=none):=Lib.hid (nums_no2 HF.out hk (by rw [HOKK.out];exact decide_eq_false he))
   obtain ⟨cs,hcs⟩:∃ z,z=(numC f k).set k (.int .i64 (v:Nat)):=⟨_,rfl⟩
   have hcl:cs.length=7:=by rw [hcs,List.length_set];rfl
   have hc1:∀ u ∈ cs,u.oneCell'=true:=by
    rw [hcs,numC_set f hk]
    intro u hu
    obtain ⟨i,_,rfl⟩:=List.mem_map.1 hu
    (repeat' split) <;> rfl
   rw [← hcs] at HX5
   clear hcs
   go_wp2_with (first
    | (refine wl_rowR rfl 127 (.tmp 4) rfl rfl (HX5.out.range (i:=1) rfl) (by rw [hcl];exact arr_row7) ?_)
    | (refine wl_put rfl (.tmp 2) (.tmp 52) rfl HX5.out 0 rfl rfl cs rfl (by rw [hcl];rfl) (by rw [hcl];kernel_rfl) hc1 ?_;intro x6 hz _;have HX6:Hid (OW w [boxO g2 cs,boxO g4 cs,bytO 5 (Af,cf,f)] x6):=Lib.hid hz;clear hz HX5))
   refine bodyPost_ret (results_rowL1 rfl _ _ g2 cs rfl (HX6.out.range (i:=0) rfl) (by kernel_rfl) (by rw [hcl];kernel_rfl)) rfl ?_
   exact .inr ⟨HN.out,⟨cs,hcl,hc1,rfl⟩,HX6.out.up⟩
  have d4:((er:Int) != 0)=false:=by rw [he];rfl
  have d5:(er != 0)=false:=by rw [he];rfl
  have HNX:Hid ((numC f k).set k (.int .i64 (v:Nat))=numC f (k + 1)):=Lib.hid (by rw [← HVA.out];exact numC_next f hk)
  have HA2:Hid (∀ j,j < k + 1→numOk f j=true):=Lib.hid fun j hj=>by
   by_cases hjk:j < k
   ·exact HAL.out j hjk
   ·obtain rfl:j=k:=by omega
    rw [HOKK.out];exact decide_eq_true he
  clear he
  go_wp2_with fail
  go_roundw
  case rel=>exact ⟨k + 1,by omega,by go_num,HA2,Lib.hid (by rw [← HNX.out];exact HX5.out)⟩
  case measure=>simp [intOf];omega
end Go.Proofs.YtfdbcfaeiglbeaaGreatDoor
