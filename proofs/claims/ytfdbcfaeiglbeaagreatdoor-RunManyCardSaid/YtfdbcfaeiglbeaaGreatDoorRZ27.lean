/-
 RunW3.
-/
import Derived.Test.YtfdbcfaeiglbeaaGreatDoorRZ25
namespace Go.Proofs.YtfdbcfaeiglbeaaGreatDoor
open Go.RowKit
theorem err_post {w y:World} {p:List UInt8×Int} {k:Int} (hb:Below w.heap.size w y) (h:p=([],k)):BytesPost2 5 p.1 p.2 w (.returned (.tuple #[.slice none 0 0,.int .i64 k])) y:=by
 subst h;exact bytes_post2 (n:=0) (own_nil _ _ _ _) hb
theorem opts_row:RowTy Tryz.prog 23 5:=⟨⟨_,Tryz.underlying23,rfl⟩,by kernel_rfl⟩
theorem os_comm (X Y:List Ob):(X ++ Y).Perm (Y ++ X):=List.perm_append_comm
theorem wl_idx {ops:Array Oper} {Q:Exit→Act→World→Prop} {rest:List Oper} {o:Oper} {a:Act} {w:World} {v:Value} (hgd:Region.wanted o (yielded ops a.tmps)=true) (t:TypeId) (x i:Operand) (ho:o.op = .index t x i) (hrun:(Instr.index t (a.eval x) (a.eval i)).run Tryz.prog w = .ok v w) (hK:wpList Tryz.prog ops Q rest (a.put o.dst v) w):wpList Tryz.prog ops Q (o::rest) a w :=
 BigFrame.wpList_want hgd fun _ hk=>by
  unfold Oper.wp execOp
  simp only [ho,Sem.run_bind,hrun,Result.andThen_ok,Sem.run_pure]
  exact hk _ _ hK
theorem idx7_0 (a b c d e f g:Value) (w:World):(Instr.index 127 (.agg #[a,b,c,d,e,f,g]) (.int .i64 0)).run Tryz.prog w = .ok a w:=by kernel_rfl
theorem idx7_1 (a b c d e f g:Value) (w:World):(Instr.index 127 (.agg #[a,b,c,d,e,f,g]) (.int .i64 1)).run Tryz.prog w = .ok b w:=by kernel_rfl
theorem idx7_2 (a b c d e f g:Value) (w:World):(Instr.index 127 (.agg #[a,b,c,d,e,f,g]) (.int .i64 2)).run Tryz.prog w = .ok c w:=by kernel_rfl
theorem idx7_3 (a b c d e f g:Value) (w:World):(Instr.index 127 (.agg #[a,b,c,d,e,f,g]) (.int .i64 3)).run Tryz.prog w = .ok d w:=by kernel_rfl
theorem idx7_4 (a b c d e f g:Value) (w:World):(Instr.index 127 (.agg #[a,b,c,d,e,f,g]) (.int .i64 4)).run Tryz.prog w = .ok e w:=by kernel_rfl
theorem idx7_5 (a b c d e f g:Value) (w:World):(Instr.index 127 (.agg #[a,b,c,d,e,f,g]) (.int .i64 5)).run Tryz.prog w = .ok f w:=by kernel_rfl
theorem idx7_6 (a b c d e f g:Value) (w:World):(Instr.index 127 (.agg #[a,b,c,d,e,f,g]) (.int .i64 6)).run Tryz.prog w = .ok g w:=by kernel_rfl
theorem rising_of (v:Nat) (a:Int) (ha:a=(v:Int)) (w:World) (hv:v < 9223372036854775808):Calls Tryz.prog 117 #[.int .i64 a] w (BytesPost2 5 (risB v) 0 w):=by subst ha;exact rising_any v w hv
def magC:Array Value:=#[.int .u8 83,.int .u8 84,.int .u8 82,.int .u8 65,.int .u8 84,.int .u8 65,.int .u8 45,.int .u8 82]
def magObj:Obj := .cells magC 5 (8,9)
theorem conv_mag (W:World) (g:Nat) (hg:g=W.heap.size):(convert 34 34 (.slice (some ⟨g,0,none⟩) 8 8)).run Tryz.prog (W.alloc (.cells #[.int .u8 83,.int .u8 84,.int .u8 82,.int .u8 65,.int .u8 84,.int .u8 65,.int .u8 45,.int .u8 82] 5)) = .ok (.slice (some ⟨g,0,none⟩) 8 8) (W.alloc magObj):=by
 subst hg;exact Lib.run_convert_bytes_const (P:=Tryz.prog) W 34 5 magC 8 8 Tryz.underlying34 Tryz.underlying5
def OutI (done:List (List Ent)) (A:Option Addr) (c:Nat) (oO:Ob):Prop:=oO=bytO 5 (A,c,headR done)∨(done=[]∧∃ g,A=some ⟨g,0,none⟩∧c=8∧oO=rawO g magObj)
set_option maxRecDepth 100000 in
theorem wl_appO {ops:Array Oper} {Q:Exit→Act→World→Prop} {rest:List Oper} {o:Oper} {a:Act} {w x:World} {os:List Ob} {oO:Ob} {done:List (List Ent)} {A:Option Addr} {c n:Nat} (hgd:Region.wanted o (yielded ops a.tmps)=true) (s y:Operand) (ho:o.op = .call { callee := .builtin .append,args:=#[s,y],argTypes:=#[34,34] })
  (h:OW w (oO::os) x) (hO:OutI done A c oO) (hn:(headR done).length=n) (hs:a.eval s = .slice A n c) (A2:Option Addr) (m c2:Nat) (r:List UInt8) (hy:a.eval y = .slice A2 m c2) (hr:RB x x.heap.size A2 m r) (hm:0 < m) (hb:n + m≤140737488355328)
  (hK:∀ A' c' z,OW w (bytO 5 (A',c',headR done ++ r)::os) z→wpList Tryz.prog ops Q rest (a.put o.dst (.slice A' (n + m) c')) z):wpList Tryz.prog ops Q (o::rest) a x:=by
 rcases hO with rfl | ⟨rfl,g,rfl,rfl,rfl⟩
 ·exact wl_appB hgd s y ho Tryz.u8s' h 0 rfl hn hs x.heap.size A2 m c2 r hy hr hb fun A' c' z hz=>hK A' c' z hz
 ·have hn8:n=8:=hn.symm
  subst hn8
  obtain ⟨ht,⟨i,z,hi,hz,hsz,hby,hzs⟩,_⟩:=Tryz.u8s'
  obtain ⟨h1,h2⟩:=h.rawh (i:=0) rfl
  have hrl:=hr.len
  obtain ⟨b2,o2,_,rfl,_,_,_⟩:=hr.at_ hm
  refine BigFrame.wpList_want hgd fun _ hk=>?_
  obtain ⟨v',w',hrun,g1,g2⟩:=run_append_arg_grows (P:=Tryz.prog) x 34 o.type 5 i z 1 1 ht hi hz hsz hby hzs (by omega) ⟨g,0,none⟩ 8 8 (u8s magR) rfl (fun j u hu=>by
    have hc:x.cell? ⟨g,j,none⟩=magC[j]?:=by
     simp [World.cell?,h2,magObj]
    rw [Addr.add_lit,Nat.zero_add,hc]
    have:u8s magR=magC.toList:=rfl
    rw [this] at hu
    rw [← Array.getElem?_toList];exact hu)
   ⟨b2,o2,none⟩ m c2 (u8s r) (by rw [u8s_length,hrl,Nat.mul_one]) (fun j u hu=>by
    rw [Addr.add_lit]
    have hjl:j < r.length:=by have h9:=(List.getElem?_eq_some_iff.1 hu).1;rwa [u8s_length] at h9
    obtain ⟨d,hd⟩:∃ d,r[j]?=some d:=⟨_,List.getElem?_eq_getElem hjl⟩
    rw [u8s_at hd] at hu
    injection hu with hu;subst hu
    exact hr.cell hd) (by omega) (by unfold maxLen;omega) (by omega)
  obtain ⟨A',cap,rfl,g4,g5,_,_⟩:=own_slice g1
  have hb9:=below_grown_none g2
  have g6:OwnB 5 x.heap.size w' A' cap (headR [] ++ r):=by
   have e1:u8s magR ++ u8s r=u8s (headR [] ++ r):=by rw [← u8s_append];rfl
   rw [e1] at g1
   have e2:(headR [] ++ r).length=8 + m:=by rw [List.length_append,hrl];rfl
   show w'.ownsRow _ _ _ _ _ _
   rw [e2];exact g1
  unfold Oper.wp execOp
  simp only [ho,resolve,invoke,builtin,Sem.run_bind,Sem.run_pure,Result.andThen_ok,List.map_toArray,List.map_cons,List.map_nil,hs,hy,hrun]
  exact hk _ _ (hK A' cap w' (((h.app (OW.byt1 hb9 g6)).erase 0).perm (fr_perm _ _)))
set_option maxRecDepth 10000000 in
set_option maxHeartbeats 16000000 in
theorem write_any (o:OptR) (L:List Ent) (A:Option Addr) (n c:Nat) (w:World) (hes:Ens w A n L) (hn:n≤100000) (ht:TabAt 0 w) :
  Calls Tryz.prog 57 #[.agg #[.int .i64 o.block,.int .i64 o.bits,.int .i64 o.index,.int .i64 o.low,.int .i64 o.clock],.slice A n c] w (BytesPost2 5 (writeR o L).1 (writeR o L).2 w):=by
 have HL:Hid (L.length=n):=Lib.hid hes.len
 have HES:Hid (∀ z,Below w.heap.size w z→Ens z A n L):=Lib.hid fun z hz=>hes.later hz
 have HTB:Hid (∀ z,Below w.heap.size w z→TabAt 0 z):=Lib.hid fun z hz=>ht.later hz
 have HX:=Lib.hid (OW.nil w)
 clear hes ht
 go_enter Tryz.func57,Tryz.ntmps57
 go_upto_region 1 with (refine wl_box rfl (.tmp 0) rfl [.int .i64 o.block,.int .i64 o.bits,.int .i64 o.index,.int .i64 o.low,.int .i64 o.clock] rfl HX.out ?_;intro g2 x1 hz hb;have HX1:Hid (OW w [boxO g2 [.int .i64 o.block,.int .i64 o.bits,.int .i64 o.index,.int .i64 o.low,.int .i64 o.clock]] x1):=Lib.hid hz;clear hz hb HX)
 have hc0:=HX1.out.cell (i:=0) (j:=0) rfl rfl
 have hc1:=HX1.out.cell (i:=0) (j:=1) rfl rfl
 have hc2:=HX1.out.cell (i:=0) (j:=2) rfl rfl
 have hc3:=HX1.out.cell (i:=0) (j:=3) rfl rfl
 have hc4:=HX1.out.cell (i:=0) (j:=4) rfl rfl
 by_cases h0:o.block < 64
 case pos =>
  have a0:decide (o.block < 64)=true:=decide_eq_true h0
  have HN:Hid (optOk o=false):=Lib.hid (by have hh:decide (64≤o.block)=false:=decide_eq_false (by omega);unfold optOk;rw [hh];simp only [Bool.false_and])
  clear h0
  go_wp2_with fail
  go_ret2
  exact err_post HX1.out.up (opt_no HN.out)
 have a0:decide (o.block < 64)=false:=decide_eq_false h0
 by_cases h1:65536 < o.block
 case pos =>
  have a1:decide (o.block > 65536)=true:=decide_eq_true h1
  have HN:Hid (optOk o=false):=Lib.hid (by have hh:decide (o.block≤65536)=false:=decide_eq_false (by omega);unfold optOk;rw [hh];simp only [Bool.false_and,Bool.and_false])
  have b1:decide (65536 < o.block)=true:=decide_eq_true h1
  clear h0 h1
  go_wp2_with fail
  go_ret2
  exact err_post HX1.out.up (opt_no HN.out)
 have a1:decide (o.block > 65536)=false:=decide_eq_false h1
 have b1:decide (65536 < o.block)=false:=decide_eq_false h1
 by_cases h2:o.bits < 0
 case pos =>
  have a2:decide (o.bits < 0)=true:=decide_eq_true h2
  have HN:Hid (optOk o=false):=Lib.hid (by have hh:decide (0≤o.bits)=false:=decide_eq_false (by omega);unfold optOk;rw [hh];simp only [Bool.false_and,Bool.and_false])
  clear h0 h1 h2
  go_wp2_with fail
  go_ret2
  exact err_post HX1.out.up (opt_no HN.out)
 have a2:decide (o.bits < 0)=false:=decide_eq_false h2
 by_cases h3:20 < o.bits
 case pos =>
  have a3:decide (o.bits > 20)=true:=decide_eq_true h3
  have HN:Hid (optOk o=false):=Lib.hid (by have hh:decide (o.bits≤20)=false:=decide_eq_false (by omega);unfold optOk;rw [hh];simp only [Bool.false_and,Bool.and_false])
  have b3:decide (20 < o.bits)=true:=decide_eq_true h3
  clear h0 h1 h2 h3
  go_wp2_with fail
  go_ret2
  exact err_post HX1.out.up (opt_no HN.out)
 have a3:decide (o.bits > 20)=false:=decide_eq_false h3
 have b3:decide (20 < o.bits)=false:=decide_eq_false h3
 cases hse:sealI o.index o.low o.clock
 case false =>
  have HN:Hid (optOk o=false):=Lib.hid (by unfold optOk;rw [hse];simp only [Bool.and_false])
  have HSE:=Lib.hid hse
  clear h0 h1 h2 h3 hse
  go_wp2_with (go_at_call 68;go_must (refine (rsealed_any _ _ _ _).mono ?_);rw [HSE.out];rintro e y ⟨rfl,rfl⟩)
  go_ret2
  exact err_post HX1.out.up (opt_no HN.out)
 have HSE0:=Lib.hid hse
 go_upto_region 3 with (go_at_call 68;go_must (refine (rsealed_any _ _ _ _).mono ?_);rw [HSE0.out];rintro e y ⟨rfl,rfl⟩)
 clear HSE0
 clear hc0 hc1 hc2 hc3 hc4
 have HOK:Hid (optOk o=true):=Lib.hid (by unfold optOk;rw [hse];simp only [Bool.and_eq_true,decide_eq_true_eq,and_true];exact ⟨⟨⟨by omega,by omega⟩,by omega⟩,by omega⟩)
 have HSE:=Lib.hid (sealI.iff hse)
 have hb1:64≤o.block∧o.block≤65536:=⟨by omega,by omega⟩
 have hb2:0≤o.bits∧o.bits≤20:=⟨by omega,by omega⟩
 clear hse h0 h1 h2 h3 a0 a1 b1 a2 a3 b3
 by_cases hn0:n=0
 case pos =>
  subst hn0
  have HN:Hid (L=[]):=Lib.hid (List.eq_nil_of_length_eq_zero HL.out)
  go_wp2_with fail
  go_ret2
  exact err_post HX1.out.up (nil_no HOK.out HN.out)
 have e0:((n:Int) == 0)=false:=beq_eq_false_iff_ne.2 (by omega)
 have e1:(n == 0)=false:=beq_eq_false_iff_ne.2 hn0
 have HNE:Hid (L ≠ []):=Lib.hid fun h=>by have:=HL.out;rw [h] at this;exact hn0 this.symm
 obtain ⟨K,hK⟩:∃ z,z=lookE o.index none L:=⟨_,rfl⟩
 have HK:=Lib.hid hK.symm
 clear hK
 go_upto_region 6 with (first
  | (refine wl_rowR rfl 23 (.tmp 2) rfl rfl (HX1.out.range (i:=0) rfl) opts_row ?_)
  | (go_at_call 106;go_must (refine (look_any o L A n c _ (HES.out _ HX1.out.up) (by omega) ⟨HSE.out.1,HSE.out.2.1⟩).mono ?_);rw [HK.out];rintro e x2 ⟨rfl,hb⟩;have HX2:=Lib.hid (HX1.out.later hb);clear hb HX1))
 by_cases hK0:K=0
 case neg =>
  have e2:(K != 0)=true:=bne_iff_ne.2 hK0
  have HKN:=Lib.hid hK0
  clear hK0
  go_wp2_with fail
  go_ret2
  exact err_post HX2.out.up (look_no HOK.out HNE.out HK.out HKN.out)
 have e2:(K != 0)=false:=by rw [hK0];rfl
 have HRF:Hid (refuseR o L=0):=Lib.hid (refuse_none HOK.out HNE.out (by rw [HK.out];exact hK0))
 have HLK:Hid (LookOk o.index L):=Lib.hid (look_ok (by rw [HK.out];exact hK0))
 clear hK0 HK
 obtain ⟨t,htt⟩:∃ z,z=o.block.toNat:=⟨_,rfl⟩
 have ht6:t≤65536:=by omega
 have htI:(t:Int)=o.block:=by omega
 have HCH:Hid (∀ x,x ∈ cutR t [] L→ChOk x):=Lib.hid (cut_ch ht6 HLK.out).1
 have HRB:Hid (runBy o L=runC o L (cutR t [] L)):=Lib.hid (by rw [htt];rfl)
 have HAS:=Lib.hid HLK.out.ascE
 clear htt
 have kc:=conv_mag
 go_upto_region 11 with fail
 obtain ⟨g7,hg7⟩:∃ z,z=x2.heap.size:=⟨_,rfl⟩
 rw [← hg7]
 have HX4:Hid (OW w [rawO g7 magObj,boxO g2 [.int .i64 o.block,.int .i64 o.bits,.int .i64 o.index,.int .i64 o.low,.int .i64 o.clock],bytO 5 (none,0,partsR [])] (x2.alloc magObj)):=Lib.hid (by
  have h1:=(HX2.out.app (OW.raw1 x2 magObj)).nilB 5
  rw [← hg7] at h1
  exact h1.perm (List.Perm.swap _ _ _))
 obtain ⟨x3,hx3⟩:∃ z,z=x2.alloc magObj:=⟨_,rfl⟩
 rw [← hx3] at HX4 ⊢
 clear kc hg7 hx3 HX2
 have hdl:(partsR []).length=0:=rfl
 have HD0:Hid ([] ++ cutR t [] (L.drop 0)=cutR t [] L):=Lib.hid rfl
 go_wp2_with fail
 go_loopw [7,8,9,10] (fun uo up ub ui wr=>∃ (i l7 l8 nd:Nat) (A7:Option Addr) (c7:Nat) (A8:Option Addr) (c8:Nat) (done:List (List Ent)) (oO:Ob),i≤n∧nd≤i∧l7≤16777216∧l8≤2200 * nd∧uo = .slice A7 l7 c7∧up = .slice A8 l8 c8∧ub = .int .i64 nd∧ui = .int .i64 i∧Hid (done.length=nd)∧Hid ((headR done).length=l7)∧Hid ((partsR done).length=l8)∧Hid (done ++ cutR t [] (L.drop i)=cutR t [] L)∧Hid (OutI done A7 c7 oO)∧Hid (OW w [oO,boxO g2 [.int .i64 o.block,.int .i64 o.bits,.int .i64 o.index,.int .i64 o.low,.int .i64 o.clock],bytO 5 (A8,c8,partsR (done))] wr)) (fun _ _ _ ui _=>n - (intOf ui).toNat)
 case atStart=>exact ⟨0,8,0,0,some ⟨g7,0,none⟩,8,none,0,[],rawO g7 magObj,Nat.zero_le _,Nat.zero_le _,by omega,Nat.zero_le _,rfl,rfl,rfl,rfl,Lib.hid rfl,Lib.hid rfl,Lib.hid rfl,HD0,Lib.hid (.inr ⟨rfl,g7,rfl,rfl,rfl⟩),HX4⟩
 case round =>
  clear HX4 HD0
  obtain ⟨i,l7,l8,nd,A7,c7,A8,c8,done,oO,hin,hnd,hl7,hl8,rfl,rfl,rfl,rfl,HND,HL7,HL8,HD,HO,HX⟩:=hrel
  by_cases hlt:i < n
  case neg =>
   have hd:decide ((i:Int) < (n:Int))=false:=decide_eq_false (by omega)
   have HDN:Hid (done=cutR t [] L):=Lib.hid (by have h:=HD.out;rw [List.drop_eq_nil_of_le (by rw [HL.out];omega)] at h;have h2:cutR t [] []=[]:=rfl;rw [h2,List.append_nil] at h;exact h)
   have hin2:i=n:=by omega
   have HCS:Hid (cutR t [] L=done):=Lib.hid HDN.out.symm
   rw [← HDN.out] at HCH HRB
   have hne:done ≠ []:=by rw [HDN.out];exact cut_ne HNE.out
   have HOB:Hid (oO=bytO 5 (A7,c7,headR done)):=Lib.hid (HO.out.elim id fun h=>absurd h.1 hne)
   obtain rfl:oO=bytO 5 (A7,c7,headR done):=HOB.out
   clear hne HOB HO HD HDN
   obtain ⟨fl,hfl⟩:∃ z,z=(filtR o L).length:=⟨_,rfl⟩
   have HFL:=Lib.hid hfl.symm
   have hfl3:fl≤3000000:=by rw [hfl];exact filt_len HOK.out (by rw [HL.out];omega)
   clear hfl
   go_upto_if 159 with (refine wpList_load_cell rfl 3 (.tmp 157) rfl rfl (HX.out.cell (i:=1) (j:=1) rfl rfl) Tryz.isAgg3 ?_)
   obtain ⟨w7,rfl⟩:∃ z:World,z=wr:=⟨_,rfl⟩
   go_cut [22] (fun fv wx=>∃ (A9:Option Addr) (c9:Nat),fv = .slice A9 fl c9∧Hid (OW w [bytO 5 (A9,c9,filtR o L),bytO 5 (A7,c7,headR done),boxO g2 [.int .i64 o.block,.int .i64 o.bits,.int .i64 o.index,.int .i64 o.low,.int .i64 o.clock],bytO 5 (A8,c8,partsR done)] wx))
   case first =>
    by_cases hbt:0 < o.bits
    case neg =>
     have db:decide (o.bits > 0)=false:=decide_eq_false (by omega)
     have db2:decide (0 < o.bits)=false:=decide_eq_false hbt
     have HF0:Hid (filtR o L=[]):=Lib.hid (by unfold filtR;rw [if_neg hbt])
     have HF1:Hid (fl=0):=Lib.hid (by rw [← HFL.out,HF0.out];rfl)
     go_wp2_with fail
     go_meet
     exact ⟨none,0,by rw [HF1.out],Lib.hid (by rw [HF0.out];exact (HX.out.nilB 5).perm (fr_perm _ _))⟩
    have db:decide (o.bits > 0)=true:=decide_eq_true hbt
    have db2:decide (0 < o.bits)=true:=decide_eq_true hbt
    have HF0:Hid (buildB o.bits (rowsE L)=filtR o L):=Lib.hid (by unfold filtR;rw [if_pos hbt])
    have HB0:Hid (buildE o.bits (rowsE L)=0):=Lib.hid (by unfold buildE;rw [if_neg (by omega),if_neg (by have h1:=rowsE_le L;have h2:=HL.out;omega)])
    go_upto_region 35 with fail
    refine lt_start [] (by kernel_rfl) ?_
    intro xd hd
    refine ⟨fun z=>OW w [bytO 5 (A7,c7,headR done),boxO g2 [.int .i64 o.block,.int .i64 o.bits,.int .i64 o.index,.int .i64 o.low,.int .i64 o.clock],bytO 5 (A8,c8,partsR done)] z,?_⟩
    have HS:=Lib.hid (HX.out.later hd)
    refine lp2 0 rfl (fun _=>HS.out) ?_
    simp only [Act.put,ls]
    refine lq 1 [4,5,6,7,8,9] rfl (yi_cell rfl rfl rfl (fun w hS=>OW.cell hS (i:=1) (j:=1) rfl rfl) Tryz.isAgg3) HS.out ?_
    simp only [Act.put,ls]
    refine lp2 2 rfl (fun _=>HS.out) ?_
    simp only [Act.put,ls]
    refine lt_call 3 rfl (by kernel_rfl) rfl rfl ⟨_,Tryz.func115,by decide,by kernel_rfl⟩ [.slice A n c] rfl ?_
    refine (rows_any L A n c _ (HES.out _ HS.out.up) (by omega)).mono ?_
    rintro e z9 ⟨Ar,nr,cr,rfl,hr1,hr2,hrb,hb⟩
    have HRB9:=Lib.hid hrb
    have hr3:nr≤1000000:=by have h1:=rowsE_le L;have h2:=HL.out;omega
    replace HS:=Lib.hid (HS.out.later hb)
    clear hb hrb hr2
    refine ⟨_,rfl,fun _=>HS.out,?_⟩
    simp only [Act.put,ls]
    refine lt_call 4 rfl (by kernel_rfl) rfl rfl ⟨_,Tryz.func114,by decide,by kernel_rfl⟩ [.int .i64 o.bits,.slice Ar nr cr] rfl ?_
    refine (bf_build_any o.bits (rowsE L) Ar nr cr _ (by omega) HRB9.out).mono ?_
    rintro e z8 (⟨_,gf,rfl,ho,hb⟩ | ⟨h0,_⟩)
    rotate_left
    ·exact absurd HB0.out h0
    rw [HF0.out,HFL.out] at ho ⊢
    have HX9:Hid (OW w ([bytO 5 (A7,c7,headR done),boxO g2 [.int .i64 o.block,.int .i64 o.bits,.int .i64 o.index,.int .i64 o.low,.int .i64 o.clock],bytO 5 (A8,c8,partsR done)] ++ [bytO 5 (some ⟨gf,0,none⟩,fl,filtR o L)]) z8):=Lib.hid (HS.out.app (OW.byt1 hb (by show World.ownsRow _ _ _ _ _ _ _;rw [HFL.out];exact ho)))
    replace HS:=Lib.hid (HX9.out.left)
    clear ho hb
    refine ⟨_,rfl,fun _=>HS.out,?_⟩
    simp only [Act.put,ls]
    refine lp2 5 rfl (fun _=>HS.out) ?_
    simp only [Act.put,ls]
    refine lp2 6 rfl (fun _=>HS.out) ?_
    simp only [Act.put,ls]
    refine lp2 7 rfl (fun _=>HS.out) ?_
    simp only [Act.put,ls]
    refine lp2 8 rfl (fun _=>HS.out) ?_
    simp only [Act.put,ls]
    refine lp2 9 rfl (fun _=>HS.out) ?_
    simp only [Act.put,ls]
    refine lt_done (by kernel_rfl) ?_
    clear HS
    go_wp2_with fail
    go_meet
    exact ⟨some ⟨gf,0,none⟩,fl,rfl,Lib.hid (HX9.out.perm (fr_perm _ _))⟩
   clear HX
   obtain ⟨A9,c9,rfl,HX⟩:=hcut
   have HFP:Hid ((sumdB (filtR o L)).length=fl + 4):=Lib.hid (by rw [sumdB_len,HFL.out])
   have HIX:Hid ((uintB nd ++ partsR done)=indexR done):=Lib.hid (by unfold indexR;rw [HND.out])
   obtain ⟨un,hun⟩:∃ z,z=(uintB nd).length:=⟨_,rfl⟩
   have HUN:=Lib.hid hun.symm
   have hun10:un≤10:=by rw [hun];exact uintB_10 (by omega)
   clear hun
   have HIL:Hid ((indexR done).length=un + l8):=Lib.hid (by rw [← HIX.out,List.length_append,HUN.out,HL8.out])
   have HO2:Hid ((headR done ++ sumdB (filtR o L)).length=l7 + (fl + 4)):=Lib.hid (by rw [List.length_append,HL7.out,HFP.out])
   have HSI:Hid ((sumdB (indexR done)).length=un + l8 + 4):=Lib.hid (by rw [sumdB_len,HIL.out])
   have HO3:Hid ((headR done ++ sumdB (filtR o L) ++ sumdB (indexR done)).length=l7 + (fl + 4) + (un + l8 + 4)):=Lib.hid (by rw [List.length_append,HO2.out,HSI.out])
   have hzn:IntKind.u64.wrap (nd:Int)=(nd:Int):=IntWalk.u64_in _ ⟨by omega,by omega⟩
   have tk1:True:=trivial
   have tk2:True:=trivial
   have tk3:True:=trivial
   go_upto_region 43 with (first
    | (go_at_call 116;(have _t:=tk1);go_must (refine (summedR_any HX.out HFL.out (by omega) (HTB.out _ (Below.refl _ _))).mono ?_);rw [← HFL.out];rintro e y1 ⟨Af,cf,he,hz⟩;rw [HFL.out] at he;subst he;have HXa:Hid (OW w [bytO 5 (Af,cf,sumdB (filtR o L)),bytO 5 (A7,c7,headR done),boxO g2 [.int .i64 o.block,.int .i64 o.bits,.int .i64 o.index,.int .i64 o.low,.int .i64 o.clock],bytO 5 (A8,c8,partsR done)] y1):=Lib.hid hz;clear hz HX tk1 _t)
    | (at_builtin;(have _t:=tk2);go_must (refine wl_appB rfl (.tmp 172) (.tmp 174) rfl Tryz.u8s' HXa.out 1 rfl HL7.out rfl _ Af (fl + 4) cf (sumdB (filtR o L)) rfl (HXa.out.sl (i:=0) rfl HFP.out).rb (by omega) ?_);intro Ag cg y2 hz;have HXb:Hid (OW w [bytO 5 (Af,cf,sumdB (filtR o L)),bytO 5 (Ag,cg,headR done ++ sumdB (filtR o L)),boxO g2 [.int .i64 o.block,.int .i64 o.bits,.int .i64 o.index,.int .i64 o.low,.int .i64 o.clock],bytO 5 (A8,c8,partsR done)] y2):=Lib.hid hz;clear hz HXa tk2 _t)
    | (go_at_call 113;go_must (refine (uint_of nd _ (by first | rfl | exact hzn) _ (by omega)).mono ?_);rintro e y3 hp;obtain ⟨Au,cu,rfl,_,ho,hb⟩:=hp.at_ (n:=un) HUN.out;have HXc:Hid (OW w [bytO 5 (Au,cu,uintB nd),bytO 5 (Af,cf,sumdB (filtR o L)),bytO 5 (Ag,cg,headR done ++ sumdB (filtR o L)),boxO g2 [.int .i64 o.block,.int .i64 o.bits,.int .i64 o.index,.int .i64 o.low,.int .i64 o.clock],bytO 5 (A8,c8,partsR done)] y3):=Lib.hid ((HXb.out.app (OW.byt1 hb ho)).perm (fr_perm _ _));clear hp ho hb HXb)
    | (at_builtin;(have _t:=tk3);go_must (refine wl_appB rfl (.tmp 181) (.tmp 182) rfl Tryz.u8s' HXc.out 0 rfl HUN.out rfl _ A8 l8 c8 (partsR done) rfl (HXc.out.sl (i:=4) rfl HL8.out).rb (by omega) ?_);intro Ai ci y4 hz;have HXd:Hid (OW w [bytO 5 (Ai,ci,indexR done),bytO 5 (Af,cf,sumdB (filtR o L)),bytO 5 (Ag,cg,headR done ++ sumdB (filtR o L)),boxO g2 [.int .i64 o.block,.int .i64 o.bits,.int .i64 o.index,.int .i64 o.low,.int .i64 o.clock],bytO 5 (A8,c8,partsR done)] y4):=Lib.hid (by rw [← HIX.out];exact hz);clear hz HXc tk3 _t)
    | (go_at_call 116;go_must (refine (summedR_any HXd.out HIL.out (by omega) (HTB.out _ (Below.refl _ _))).mono ?_);rintro e y5 ⟨Aj,cj,he,hz⟩;rw [HIL.out] at he;subst he;have HXe:Hid (OW w [bytO 5 (Aj,cj,sumdB (indexR done)),bytO 5 (Af,cf,sumdB (filtR o L)),bytO 5 (Ag,cg,headR done ++ sumdB (filtR o L)),boxO g2 [.int .i64 o.block,.int .i64 o.bits,.int .i64 o.index,.int .i64 o.low,.int .i64 o.clock],bytO 5 (A8,c8,partsR done)] y5):=Lib.hid hz;clear hz HXd)
    | (at_builtin;go_must (refine wl_appB rfl (.tmp 178) (.tmp 184) rfl Tryz.u8s' HXe.out 2 rfl HO2.out rfl _ Aj (un + l8 + 4) cj (sumdB (indexR done)) rfl (HXe.out.sl (i:=0) rfl HSI.out).rb (by omega) ?_);intro Ak ck y6 hz;have HXf:Hid (OW w [bytO 5 (Aj,cj,sumdB (indexR done)),bytO 5 (Af,cf,sumdB (filtR o L)),bytO 5 (Ak,ck,headR done ++ sumdB (filtR o L) ++ sumdB (indexR done)),boxO g2 [.int .i64 o.block,.int .i64 o.bits,.int .i64 o.index,.int .i64 o.low,.int .i64 o.clock],bytO 5 (A8,c8,partsR done)] y6):=Lib.hid hz;clear hz HXe))
   have HNS:Hid (numsR o L done=[n,o.index.toNat,o.low.toNat,o.clock.toNat,nd,l7,l7 + (fl + 4)]):=Lib.hid (by rw [nums_val,HL.out,HND.out,HL7.out,HO2.out])
   have HXg:Hid (OW w [bytO 5 (none,0,risBs (List.take 0 [n,o.index.toNat,o.low.toNat,o.clock.toNat,nd,l7,l7 + (fl + 4)])),bytO 5 (Ak,ck,headR done ++ sumdB (filtR o L) ++ sumdB (indexR done)),boxO g2 [.int .i64 o.block,.int .i64 o.bits,.int .i64 o.index,.int .i64 o.low,.int .i64 o.clock]] y6):=Lib.hid (((((HXf.out.erase 0).erase 0).erase 2).nilB 5).perm (fr_perm _ _))
   clear HXf
   go_wp2_with (first
    | (refine wpList_load_cell rfl 3 (.tmp 188) rfl rfl (HXg.out.cell (i:=2) (j:=2) rfl rfl) Tryz.isAgg3 ?_)
    | (refine wpList_load_cell rfl 3 (.tmp 190) rfl rfl (HXg.out.cell (i:=2) (j:=3) rfl rfl) Tryz.isAgg3 ?_)
    | (refine wpList_load_cell rfl 3 (.tmp 192) rfl rfl (HXg.out.cell (i:=2) (j:=4) rfl rfl) Tryz.isAgg3 ?_))
   go_loopw [26,198] (fun nv kv wr=>∃ (k:Nat) (A:Option Addr) (c:Nat),k≤7∧kv = .int .i64 k∧nv = .slice A (8 * k) c∧Hid (OW w [bytO 5 (A,c,risBs (List.take k [n,o.index.toNat,o.low.toNat,o.clock.toNat,nd,l7,l7 + (fl + 4)])),bytO 5 (Ak,ck,headR done ++ sumdB (filtR o L) ++ sumdB (indexR done)),boxO g2 [.int .i64 o.block,.int .i64 o.bits,.int .i64 o.index,.int .i64 o.low,.int .i64 o.clock]] wr)) (fun _ kv _=>7 - (intOf kv).toNat)
   case atStart=>exact ⟨0,none,0,by decide,rfl,rfl,HXg⟩
   case round =>
    clear HXg
    obtain ⟨k,An,cn,hk7,rfl,rfl,HZ⟩:=hrel
    rcases (by omega:k=0∨k=1∨k=2∨k=3∨k=4∨k=5∨k=6∨k=7) with rfl | rfl | rfl | rfl | rfl | rfl | rfl | rfl
    ·go_wp2_with (first
      | (refine wl_idx rfl 127 (.tmp 197) (.tmp 198) rfl (idx7_0 _ _ _ _ _ _ _ _) ?_)
      | (go_at_call 117;go_must (refine (rising_of (n) _ rfl _ (by have h:=HSE.out;omega)).mono ?_);rintro e z1 hp;obtain ⟨Ar,cr,rfl,_,ho,hb⟩:=hp.at_ (n:=8) (risB_len _) rfl;have HZ1:Hid (OW w [bytO 5 (An,cn,risBs (List.take 0 [n,o.index.toNat,o.low.toNat,o.clock.toNat,nd,l7,l7 + (fl + 4)])),bytO 5 (Ak,ck,headR done ++ sumdB (filtR o L) ++ sumdB (indexR done)),boxO g2 [.int .i64 o.block,.int .i64 o.bits,.int .i64 o.index,.int .i64 o.low,.int .i64 o.clock],bytO 5 (Ar,cr,risB (n))] z1):=Lib.hid (HZ.out.app (OW.byt1 hb ho));clear hp ho hb HZ)
      | (at_builtin;go_must (refine wl_appB rfl (.tmp 206) (.tmp 207) rfl Tryz.u8s' HZ1.out 0 rfl (show (risBs (List.take 0 [n,o.index.toNat,o.low.toNat,o.clock.toNat,nd,l7,l7 + (fl + 4)])).length=0 by rw [risBs_len];rfl) rfl _ Ar 8 cr (risB (n)) rfl (HZ1.out.sl (i:=3) rfl (risB_len _)).rb (by omega) ?_);intro As cs5 z2 hz;have HZ2:Hid (OW w [bytO 5 (As,cs5,risBs (List.take 1 [n,o.index.toNat,o.low.toNat,o.clock.toNat,nd,l7,l7 + (fl + 4)])),bytO 5 (Ak,ck,headR done ++ sumdB (filtR o L) ++ sumdB (indexR done)),boxO g2 [.int .i64 o.block,.int .i64 o.bits,.int .i64 o.index,.int .i64 o.low,.int .i64 o.clock]] z2):=Lib.hid (by rw [risBs_take (k:=0) (v:=n) rfl];exact OW.left (ps:=[_]) hz);clear hz HZ1))
     go_roundw
     case rel=>exact ⟨1,As,cs5,by decide,by go_num,rfl,HZ2⟩
     case measure=>simp [intOf]
    ·go_wp2_with (first
      | (refine wl_idx rfl 127 (.tmp 197) (.tmp 198) rfl (idx7_1 _ _ _ _ _ _ _ _) ?_)
      | (go_at_call 117;go_must (refine (rising_of (o.index.toNat) _ (Int.toNat_of_nonneg HSE.out.1).symm _ (by have h:=HSE.out;omega)).mono ?_);rintro e z1 hp;obtain ⟨Ar,cr,rfl,_,ho,hb⟩:=hp.at_ (n:=8) (risB_len _) rfl;have HZ1:Hid (OW w [bytO 5 (An,cn,risBs (List.take 1 [n,o.index.toNat,o.low.toNat,o.clock.toNat,nd,l7,l7 + (fl + 4)])),bytO 5 (Ak,ck,headR done ++ sumdB (filtR o L) ++ sumdB (indexR done)),boxO g2 [.int .i64 o.block,.int .i64 o.bits,.int .i64 o.index,.int .i64 o.low,.int .i64 o.clock],bytO 5 (Ar,cr,risB (o.index.toNat))] z1):=Lib.hid (HZ.out.app (OW.byt1 hb ho));clear hp ho hb HZ)
      | (at_builtin;go_must (refine wl_appB rfl (.tmp 206) (.tmp 207) rfl Tryz.u8s' HZ1.out 0 rfl (show (risBs (List.take 1 [n,o.index.toNat,o.low.toNat,o.clock.toNat,nd,l7,l7 + (fl + 4)])).length=8 by rw [risBs_len];rfl) rfl _ Ar 8 cr (risB (o.index.toNat)) rfl (HZ1.out.sl (i:=3) rfl (risB_len _)).rb (by omega) ?_);intro As cs5 z2 hz;have HZ2:Hid (OW w [bytO 5 (As,cs5,risBs (List.take 2 [n,o.index.toNat,o.low.toNat,o.clock.toNat,nd,l7,l7 + (fl + 4)])),bytO 5 (Ak,ck,headR done ++ sumdB (filtR o L) ++ sumdB (indexR done)),boxO g2 [.int .i64 o.block,.int .i64 o.bits,.int .i64 o.index,.int .i64 o.low,.int .i64 o.clock]] z2):=Lib.hid (by rw [risBs_take (k:=1) (v:=o.index.toNat) rfl];exact OW.left (ps:=[_]) hz);clear hz HZ1))
     go_roundw
     case rel=>exact ⟨2,As,cs5,by decide,by go_num,rfl,HZ2⟩
     case measure=>simp [intOf]
    ·go_wp2_with (first
      | (refine wl_idx rfl 127 (.tmp 197) (.tmp 198) rfl (idx7_2 _ _ _ _ _ _ _ _) ?_)
      | (go_at_call 117;go_must (refine (rising_of (o.low.toNat) _ (Int.toNat_of_nonneg HSE.out.2.2.2.2.1).symm _ (by have h:=HSE.out;omega)).mono ?_);rintro e z1 hp;obtain ⟨Ar,cr,rfl,_,ho,hb⟩:=hp.at_ (n:=8) (risB_len _) rfl;have HZ1:Hid (OW w [bytO 5 (An,cn,risBs (List.take 2 [n,o.index.toNat,o.low.toNat,o.clock.toNat,nd,l7,l7 + (fl + 4)])),bytO 5 (Ak,ck,headR done ++ sumdB (filtR o L) ++ sumdB (indexR done)),boxO g2 [.int .i64 o.block,.int .i64 o.bits,.int .i64 o.index,.int .i64 o.low,.int .i64 o.clock],bytO 5 (Ar,cr,risB (o.low.toNat))] z1):=Lib.hid (HZ.out.app (OW.byt1 hb ho));clear hp ho hb HZ)
      | (at_builtin;go_must (refine wl_appB rfl (.tmp 206) (.tmp 207) rfl Tryz.u8s' HZ1.out 0 rfl (show (risBs (List.take 2 [n,o.index.toNat,o.low.toNat,o.clock.toNat,nd,l7,l7 + (fl + 4)])).length=16 by rw [risBs_len];rfl) rfl _ Ar 8 cr (risB (o.low.toNat)) rfl (HZ1.out.sl (i:=3) rfl (risB_len _)).rb (by omega) ?_);intro As cs5 z2 hz;have HZ2:Hid (OW w [bytO 5 (As,cs5,risBs (List.take 3 [n,o.index.toNat,o.low.toNat,o.clock.toNat,nd,l7,l7 + (fl + 4)])),bytO 5 (Ak,ck,headR done ++ sumdB (filtR o L) ++ sumdB (indexR done)),boxO g2 [.int .i64 o.block,.int .i64 o.bits,.int .i64 o.index,.int .i64 o.low,.int .i64 o.clock]] z2):=Lib.hid (by rw [risBs_take (k:=2) (v:=o.low.toNat) rfl];exact OW.left (ps:=[_]) hz);clear hz HZ1))
     go_roundw
     case rel=>exact ⟨3,As,cs5,by decide,by go_num,rfl,HZ2⟩
     case measure=>simp [intOf]
    ·go_wp2_with (first
      | (refine wl_idx rfl 127 (.tmp 197) (.tmp 198) rfl (idx7_3 _ _ _ _ _ _ _ _) ?_)
      | (go_at_call 117;go_must (refine (rising_of (o.clock.toNat) _ (Int.toNat_of_nonneg (by have h:=HSE.out;omega)).symm _ (by have h:=HSE.out;omega)).mono ?_);rintro e z1 hp;obtain ⟨Ar,cr,rfl,_,ho,hb⟩:=hp.at_ (n:=8) (risB_len _) rfl;have HZ1:Hid (OW w [bytO 5 (An,cn,risBs (List.take 3 [n,o.index.toNat,o.low.toNat,o.clock.toNat,nd,l7,l7 + (fl + 4)])),bytO 5 (Ak,ck,headR done ++ sumdB (filtR o L) ++ sumdB (indexR done)),boxO g2 [.int .i64 o.block,.int .i64 o.bits,.int .i64 o.index,.int .i64 o.low,.int .i64 o.clock],bytO 5 (Ar,cr,risB (o.clock.toNat))] z1):=Lib.hid (HZ.out.app (OW.byt1 hb ho));clear hp ho hb HZ)
      | (at_builtin;go_must (refine wl_appB rfl (.tmp 206) (.tmp 207) rfl Tryz.u8s' HZ1.out 0 rfl (show (risBs (List.take 3 [n,o.index.toNat,o.low.toNat,o.clock.toNat,nd,l7,l7 + (fl + 4)])).length=24 by rw [risBs_len];rfl) rfl _ Ar 8 cr (risB (o.clock.toNat)) rfl (HZ1.out.sl (i:=3) rfl (risB_len _)).rb (by omega) ?_);intro As cs5 z2 hz;have HZ2:Hid (OW w [bytO 5 (As,cs5,risBs (List.take 4 [n,o.index.toNat,o.low.toNat,o.clock.toNat,nd,l7,l7 + (fl + 4)])),bytO 5 (Ak,ck,headR done ++ sumdB (filtR o L) ++ sumdB (indexR done)),boxO g2 [.int .i64 o.block,.int .i64 o.bits,.int .i64 o.index,.int .i64 o.low,.int .i64 o.clock]] z2):=Lib.hid (by rw [risBs_take (k:=3) (v:=o.clock.toNat) rfl];exact OW.left (ps:=[_]) hz);clear hz HZ1))
     go_roundw
     case rel=>exact ⟨4,As,cs5,by decide,by go_num,rfl,HZ2⟩
     case measure=>simp [intOf]
    ·go_wp2_with (first
      | (refine wl_idx rfl 127 (.tmp 197) (.tmp 198) rfl (idx7_4 _ _ _ _ _ _ _ _) ?_)
      | (go_at_call 117;go_must (refine (rising_of (nd) _ rfl _ (by have h:=HSE.out;omega)).mono ?_);rintro e z1 hp;obtain ⟨Ar,cr,rfl,_,ho,hb⟩:=hp.at_ (n:=8) (risB_len _) rfl;have HZ1:Hid (OW w [bytO 5 (An,cn,risBs (List.take 4 [n,o.index.toNat,o.low.toNat,o.clock.toNat,nd,l7,l7 + (fl + 4)])),bytO 5 (Ak,ck,headR done ++ sumdB (filtR o L) ++ sumdB (indexR done)),boxO g2 [.int .i64 o.block,.int .i64 o.bits,.int .i64 o.index,.int .i64 o.low,.int .i64 o.clock],bytO 5 (Ar,cr,risB (nd))] z1):=Lib.hid (HZ.out.app (OW.byt1 hb ho));clear hp ho hb HZ)
      | (at_builtin;go_must (refine wl_appB rfl (.tmp 206) (.tmp 207) rfl Tryz.u8s' HZ1.out 0 rfl (show (risBs (List.take 4 [n,o.index.toNat,o.low.toNat,o.clock.toNat,nd,l7,l7 + (fl + 4)])).length=32 by rw [risBs_len];rfl) rfl _ Ar 8 cr (risB (nd)) rfl (HZ1.out.sl (i:=3) rfl (risB_len _)).rb (by omega) ?_);intro As cs5 z2 hz;have HZ2:Hid (OW w [bytO 5 (As,cs5,risBs (List.take 5 [n,o.index.toNat,o.low.toNat,o.clock.toNat,nd,l7,l7 + (fl + 4)])),bytO 5 (Ak,ck,headR done ++ sumdB (filtR o L) ++ sumdB (indexR done)),boxO g2 [.int .i64 o.block,.int .i64 o.bits,.int .i64 o.index,.int .i64 o.low,.int .i64 o.clock]] z2):=Lib.hid (by rw [risBs_take (k:=4) (v:=nd) rfl];exact OW.left (ps:=[_]) hz);clear hz HZ1))
     go_roundw
     case rel=>exact ⟨5,As,cs5,by decide,by go_num,rfl,HZ2⟩
     case measure=>simp [intOf]
    ·go_wp2_with (first
      | (refine wl_idx rfl 127 (.tmp 197) (.tmp 198) rfl (idx7_5 _ _ _ _ _ _ _ _) ?_)
      | (go_at_call 117;go_must (refine (rising_of (l7) _ rfl _ (by have h:=HSE.out;omega)).mono ?_);rintro e z1 hp;obtain ⟨Ar,cr,rfl,_,ho,hb⟩:=hp.at_ (n:=8) (risB_len _) rfl;have HZ1:Hid (OW w [bytO 5 (An,cn,risBs (List.take 5 [n,o.index.toNat,o.low.toNat,o.clock.toNat,nd,l7,l7 + (fl + 4)])),bytO 5 (Ak,ck,headR done ++ sumdB (filtR o L) ++ sumdB (indexR done)),boxO g2 [.int .i64 o.block,.int .i64 o.bits,.int .i64 o.index,.int .i64 o.low,.int .i64 o.clock],bytO 5 (Ar,cr,risB (l7))] z1):=Lib.hid (HZ.out.app (OW.byt1 hb ho));clear hp ho hb HZ)
      | (at_builtin;go_must (refine wl_appB rfl (.tmp 206) (.tmp 207) rfl Tryz.u8s' HZ1.out 0 rfl (show (risBs (List.take 5 [n,o.index.toNat,o.low.toNat,o.clock.toNat,nd,l7,l7 + (fl + 4)])).length=40 by rw [risBs_len];rfl) rfl _ Ar 8 cr (risB (l7)) rfl (HZ1.out.sl (i:=3) rfl (risB_len _)).rb (by omega) ?_);intro As cs5 z2 hz;have HZ2:Hid (OW w [bytO 5 (As,cs5,risBs (List.take 6 [n,o.index.toNat,o.low.toNat,o.clock.toNat,nd,l7,l7 + (fl + 4)])),bytO 5 (Ak,ck,headR done ++ sumdB (filtR o L) ++ sumdB (indexR done)),boxO g2 [.int .i64 o.block,.int .i64 o.bits,.int .i64 o.index,.int .i64 o.low,.int .i64 o.clock]] z2):=Lib.hid (by rw [risBs_take (k:=5) (v:=l7) rfl];exact OW.left (ps:=[_]) hz);clear hz HZ1))
     go_roundw
     case rel=>exact ⟨6,As,cs5,by decide,by go_num,rfl,HZ2⟩
     case measure=>simp [intOf]
    ·go_wp2_with (first
      | (refine wl_idx rfl 127 (.tmp 197) (.tmp 198) rfl (idx7_6 _ _ _ _ _ _ _ _) ?_)
      | (go_at_call 117;go_must (refine (rising_of (l7 + (fl + 4)) _ (by first | rfl | omega) _ (by have h:=HSE.out;omega)).mono ?_);rintro e z1 hp;obtain ⟨Ar,cr,rfl,_,ho,hb⟩:=hp.at_ (n:=8) (risB_len _) rfl;have HZ1:Hid (OW w [bytO 5 (An,cn,risBs (List.take 6 [n,o.index.toNat,o.low.toNat,o.clock.toNat,nd,l7,l7 + (fl + 4)])),bytO 5 (Ak,ck,headR done ++ sumdB (filtR o L) ++ sumdB (indexR done)),boxO g2 [.int .i64 o.block,.int .i64 o.bits,.int .i64 o.index,.int .i64 o.low,.int .i64 o.clock],bytO 5 (Ar,cr,risB (l7 + (fl + 4)))] z1):=Lib.hid (HZ.out.app (OW.byt1 hb ho));clear hp ho hb HZ)
      | (at_builtin;go_must (refine wl_appB rfl (.tmp 206) (.tmp 207) rfl Tryz.u8s' HZ1.out 0 rfl (show (risBs (List.take 6 [n,o.index.toNat,o.low.toNat,o.clock.toNat,nd,l7,l7 + (fl + 4)])).length=48 by rw [risBs_len];rfl) rfl _ Ar 8 cr (risB (l7 + (fl + 4))) rfl (HZ1.out.sl (i:=3) rfl (risB_len _)).rb (by omega) ?_);intro As cs5 z2 hz;have HZ2:Hid (OW w [bytO 5 (As,cs5,risBs (List.take 7 [n,o.index.toNat,o.low.toNat,o.clock.toNat,nd,l7,l7 + (fl + 4)])),bytO 5 (Ak,ck,headR done ++ sumdB (filtR o L) ++ sumdB (indexR done)),boxO g2 [.int .i64 o.block,.int .i64 o.bits,.int .i64 o.index,.int .i64 o.low,.int .i64 o.clock]] z2):=Lib.hid (by rw [risBs_take (k:=6) (v:=l7 + (fl + 4)) rfl];exact OW.left (ps:=[_]) hz);clear hz HZ1))
     go_roundw
     case rel=>exact ⟨7,As,cs5,by decide,by go_num,rfl,HZ2⟩
     case measure=>simp [intOf]
    ·have HFL7:Hid ((risBs [n,o.index.toNat,o.low.toNat,o.clock.toNat,nd,l7,l7 + (fl + 4)]).length=56):=Lib.hid (by rw [risBs_len];rfl)
     have HFR:Hid (frameR (risBs [n,o.index.toNat,o.low.toNat,o.clock.toNat,nd,l7,l7 + (fl + 4)])=frameB (risBs [n,o.index.toNat,o.low.toNat,o.clock.toNat,nd,l7,l7 + (fl + 4)])∧frameE (risBs [n,o.index.toNat,o.low.toNat,o.clock.toNat,nd,l7,l7 + (fl + 4)])=0):=Lib.hid (by unfold frameR frameE;rw [HFL7.out];exact ⟨rfl,rfl⟩)
     have HFB:Hid ((frameB (risBs [n,o.index.toNat,o.low.toNat,o.clock.toNat,nd,l7,l7 + (fl + 4)])).length=68):=Lib.hid (by rw [frameB_length,HFL7.out])
     obtain ⟨tot,htot⟩:∃ z,z=l7 + (fl + 4) + (un + l8 + 4):=⟨_,rfl⟩
     have HRL:Hid (runBy o L=headR done ++ sumdB (filtR o L) ++ sumdB (indexR done) ++ frameB (risBs [n,o.index.toNat,o.low.toNat,o.clock.toNat,nd,l7,l7 + (fl + 4)])):=Lib.hid (by rw [HRB.out,← HNS.out];rfl)
     have HRN:Hid ((runBy o L).length=tot + 68):=Lib.hid (by rw [HRL.out,List.length_append,HO3.out,HFB.out,htot])
     have HO5:Hid ((headR done ++ sumdB (filtR o L) ++ sumdB (indexR done)).length=tot):=Lib.hid (by rw [htot];exact HO3.out)
     have HZ0:Hid (OW w [bytO 5 (An,cn,risBs [n,o.index.toNat,o.low.toNat,o.clock.toNat,nd,l7,l7 + (fl + 4)]),bytO 5 (Ak,ck,headR done ++ sumdB (filtR o L) ++ sumdB (indexR done)),boxO g2 [.int .i64 o.block,.int .i64 o.bits,.int .i64 o.index,.int .i64 o.low,.int .i64 o.clock]] wr):=Lib.hid HZ.out
     have htb:tot≤300000000:=by omega
     rw [← htot]
     clear HZ htot
     go_upto_region 51 with (first
      | (go_at_call 118;go_must (refine (frame_any (risBs [n,o.index.toNat,o.low.toNat,o.clock.toNat,nd,l7,l7 + (fl + 4)]) An 56 cn _ (by omega) (HZ0.out.sl (i:=0) rfl HFL7.out).cap (HZ0.out.sl (i:=0) rfl HFL7.out).lim (HZ0.out.sl (i:=0) rfl HFL7.out).nil (HZ0.out.sl (i:=0) rfl HFL7.out).rb (HTB.out _ HZ0.out.up)).mono ?_);rw [HFR.out.1,HFR.out.2];rintro e z1 hp;obtain ⟨Af2,cf2,rfl,_,ho,hb⟩:=hp.at_ (n:=68) HFB.out rfl;have HZ1:Hid (OW w [bytO 5 (An,cn,risBs [n,o.index.toNat,o.low.toNat,o.clock.toNat,nd,l7,l7 + (fl + 4)]),bytO 5 (Ak,ck,headR done ++ sumdB (filtR o L) ++ sumdB (indexR done)),boxO g2 [.int .i64 o.block,.int .i64 o.bits,.int .i64 o.index,.int .i64 o.low,.int .i64 o.clock],bytO 5 (Af2,cf2,frameB (risBs [n,o.index.toNat,o.low.toNat,o.clock.toNat,nd,l7,l7 + (fl + 4)]))] z1):=Lib.hid (HZ0.out.app (OW.byt1 hb ho));clear hp ho hb HZ0)
      | (at_builtin;go_must (refine wl_appB rfl (.tmp 215) (.tmp 216) rfl Tryz.u8s' HZ1.out 1 rfl HO5.out rfl _ Af2 68 cf2 (frameB (risBs [n,o.index.toNat,o.low.toNat,o.clock.toNat,nd,l7,l7 + (fl + 4)])) rfl (HZ1.out.sl (i:=3) rfl HFB.out).rb (by omega) ?_);intro Ae ce z2 hz;have HZ2:Hid (OW w [bytO 5 (Ae,ce,headR done ++ sumdB (filtR o L) ++ sumdB (indexR done) ++ frameB (risBs [n,o.index.toNat,o.low.toNat,o.clock.toNat,nd,l7,l7 + (fl + 4)]))] z2):=Lib.hid (OW.left (ps:=[_,_]) (OW.erase hz 0));clear hz HZ1))
     by_cases hbig:16777216 < tot + 68
     case pos =>
      have dd:decide ((tot:Int) + 68 > 16777216)=true:=decide_eq_true (by omega)
      have dd2:decide (16777216 < (tot:Int) + 68)=true:=decide_eq_true (by omega)
      have HW:Hid (writeR o L=([],2)):=Lib.hid (wlong_no HRF.out (by rw [HRN.out];exact hbig))
      go_wp2_with fail
      go_ret2
      exact err_post HZ2.out.up HW.out
     have dd:decide ((tot:Int) + 68 > 16777216)=false:=decide_eq_false (by omega)
     have dd2:decide (16777216 < (tot:Int) + 68)=false:=decide_eq_false (by omega)
     have HW:Hid (writeR o L=(runBy o L,0)):=Lib.hid (write_ok HRF.out (by rw [HRN.out];exact hbig))
     go_wp2_with fail
     go_ret2
     rw [HW.out]
     exact HZ2.out.bytes2 HRL.out.symm (by rw [← HRL.out];exact HRN.out) rfl rfl
  have hd:decide ((i:Int) < (n:Int))=true:=decide_eq_true (by omega)
  have i0:(0:Int)≤(i:Int):=by omega
  have i1:(i:Int) < (n:Int):=by omega
  obtain ⟨w5,rfl⟩:∃ z:World,z=wr:=⟨_,rfl⟩
  go_upto_block 2 with (go_at_call 107;go_must (refine (begin_ok 16 _ (by decide) (by decide)).mono ?_);rintro e x5 ⟨g,os,rfl,hB,hz⟩;have HB:=Lib.hid hB;have HX5:Hid (OW w (os ++ [oO,boxO g2 [.int .i64 o.block,.int .i64 o.bits,.int .i64 o.index,.int .i64 o.low,.int .i64 o.clock],bytO 5 (A8,c8,partsR (done))]) x5):=Lib.hid ((HX.out.app hz).perm (os_comm _ _));clear hB hz HX)
  go_cut [10] from 81 to 107 (fun uv wx=>∃ (j:Nat) (os:List Ob),i < j∧j≤n∧uv = .int .i64 j∧Hid (Bld 16 ((L.drop i).take (j - i)) g os)∧Hid (cutR t [] (L.drop i)=((L.drop i).take (j - i))::cutR t [] (L.drop j))∧Hid (OW w (os ++ [oO,boxO g2 [.int .i64 o.block,.int .i64 o.bits,.int .i64 o.index,.int .i64 o.low,.int .i64 o.clock],bytO 5 (A8,c8,partsR (done))]) wx))
  case first =>
   go_wp2_with fail
   go_loopw [10] (fun uv wr=>∃ (j:Nat) (os:List Ob),i≤j∧j≤n∧uv = .int .i64 j∧Hid (Bld 16 ((L.drop i).take (j - i)) g os)∧Hid (cutR t [] (L.drop i)=cutR t ((L.drop i).take (j - i)) (L.drop j))∧Hid (OW w (os ++ [oO,boxO g2 [.int .i64 o.block,.int .i64 o.bits,.int .i64 o.index,.int .i64 o.low,.int .i64 o.clock],bytO 5 (A8,c8,partsR (done))]) wr)) (fun uv _=>n - (intOf uv).toNat)
   case atStart=>exact ⟨i,os,Nat.le_refl _,hin,rfl,Lib.hid (by rw [Nat.sub_self,List.take_zero];exact HB.out),Lib.hid (by rw [Nat.sub_self,List.take_zero]),HX5⟩
   case round =>
    clear HX5 HB
    obtain ⟨j,os,hij,hjn,rfl,HB,HCU,HX⟩:=hrel
    have j0:(0:Int)≤(j:Int):=by omega
    have HLN:Hid (((L.drop i).take (j - i)).length=j - i):=Lib.hid (by rw [List.length_take,List.length_drop,HL.out];omega)
    by_cases hjl:j < n
    case neg =>
     have dj:decide ((j:Int) < (n:Int))=false:=decide_eq_false (by omega)
     have HC2:Hid (cutR t [] (L.drop i)=((L.drop i).take (j - i))::cutR t [] (L.drop j)):=Lib.hid (by
      rw [HCU.out,List.drop_eq_nil_of_le (show L.length≤j by rw [HL.out];omega),cutR_last (fun h=>by have:=HLN.out;rw [h] at this;simp at this;omega)];rfl)
     go_upto_region 15 with fail
     refine lt_start [] (by kernel_rfl) ?_
     intro xd hd
     refine ⟨fun z=>OW w (os ++ [oO,boxO g2 [.int .i64 o.block,.int .i64 o.bits,.int .i64 o.index,.int .i64 o.low,.int .i64 o.clock],bytO 5 (A8,c8,partsR (done))]) z,?_⟩
     have HS:=Lib.hid (HX.out.later hd)
     refine lp2 0 rfl (fun _=>HS.out) ?_
     simp only [Act.put,ls]
     refine lp2 1 rfl (fun _=>HS.out) ?_
     simp only [Act.put,ls]
     refine lp2 2 rfl (fun _=>HS.out) ?_
     simp only [Act.put,ls]
     refine lp2 3 rfl (fun _=>HS.out) ?_
     simp only [Act.put,ls]
     refine lp2 4 rfl (fun _=>HS.out) ?_
     simp only [Act.put,ls]
     refine lk 5 rfl (fun _=>HS.out) ?_
     simp only [Act.put,ls]
     refine lk 6 rfl (fun _=>HS.out) ?_
     simp only [Act.put,ls]
     refine lk 7 rfl (fun _=>HS.out) ?_
     simp only [Act.put,ls]
     refine lk 8 rfl (fun _=>HS.out) ?_
     simp only [Act.put,ls]
     refine lk 9 rfl (fun _=>HS.out) ?_
     simp only [Act.put,ls]
     refine lk 10 rfl (fun _=>HS.out) ?_
     simp only [Act.put,ls]
     refine lk 11 rfl (fun _=>HS.out) ?_
     simp only [Act.put,ls]
     refine lk 12 rfl (fun _=>HS.out) ?_
     simp only [Act.put,ls]
     refine lk 13 rfl (fun _=>HS.out) ?_
     simp only [Act.put,ls]
     refine lk 14 rfl (fun _=>HS.out) ?_
     simp only [Act.put,ls]
     refine lp2 15 rfl (fun _=>HS.out) ?_
     simp only [Act.put,ls]
     refine lt_done (by kernel_rfl) ?_
     replace HX:=Lib.hid HS.out
     clear HS
     go_wp2_with fail
     go_meet
     exact ⟨j,os,by omega,hjn,rfl,HB,HC2,HX⟩
    have dj:decide ((j:Int) < (n:Int))=true:=decide_eq_true (by omega)
    have j1:(j:Int) < (n:Int):=by omega
    obtain ⟨b,oo,r,rfl,hb,hr,hrg,hen⟩:=(HES.out w (Below.refl _ _)).er hjl
    have HR:=Lib.hid hr
    have HRG:Hid (∀ z,Below w.heap.size w z→z.rangeAt b (oo + j * 7) [.slice r.A r.e.row.length r.c,.int .i64 r.e.fam,.slice r.B r.e.qual.length r.d,.int .i64 r.e.ts,.int .i64 r.e.seq,.int .i64 r.e.kind,.slice r.D r.e.val.length r.q]):=Lib.hid fun z hz k v hj=>(hz.cell (p:=⟨b,_,none⟩) hb).trans (hrg k v hj)
    have HEN:Hid (∀ z,Below w.heap.size w z→r.En z):=Lib.hid fun z hz=>hen.later hz
    clear hb hr hrg hen
    by_cases hji:j=i
    case pos =>
     have dji:((j:Int) == (i:Int))=true:=by rw [hji];simp
     have dji2:(j == i)=true:=by rw [hji];simp
     have HNF:Hid (¬ fullR t ((L.drop i).take (j - i))):=Lib.hid fun h=>h.1 (List.eq_nil_of_length_eq_zero (by rw [HLN.out];omega))
     go_upto_region 15 with fail
     refine lt_start [] (by kernel_rfl) ?_
     intro xd hd
     refine ⟨fun z=>OW w (os ++ [oO,boxO g2 [.int .i64 o.block,.int .i64 o.bits,.int .i64 o.index,.int .i64 o.low,.int .i64 o.clock],bytO 5 (A8,c8,partsR (done))]) z,?_⟩
     have HS:=Lib.hid (HX.out.later hd)
     refine lp2 0 rfl (fun _=>HS.out) ?_
     simp only [Act.put,ls]
     refine lp2 1 rfl (fun _=>HS.out) ?_
     simp only [Act.put,ls]
     refine lp2 2 rfl (fun _=>HS.out) ?_
     simp only [Act.put,ls]
     refine lp2 3 rfl (fun _=>HS.out) ?_
     simp only [Act.put,ls]
     refine lp2 4 rfl (fun _=>HS.out) ?_
     simp only [Act.put,ls]
     refine lp2 5 rfl (fun _=>HS.out) ?_
     simp only [Act.put,ls]
     refine lp2 6 rfl (fun _=>HS.out) ?_
     simp only [Act.put,ls]
     refine lp2 7 rfl (fun _=>HS.out) ?_
     simp only [Act.put,ls]
     refine lp2 8 rfl (fun _=>HS.out) ?_
     simp only [Act.put,ls]
     refine lk 9 rfl (fun _=>HS.out) ?_
     simp only [Act.put,ls]
     refine lk 10 rfl (fun _=>HS.out) ?_
     simp only [Act.put,ls]
     refine lk 11 rfl (fun _=>HS.out) ?_
     simp only [Act.put,ls]
     refine lk 12 rfl (fun _=>HS.out) ?_
     simp only [Act.put,ls]
     refine lk 13 rfl (fun _=>HS.out) ?_
     simp only [Act.put,ls]
     refine lp2 14 rfl (fun _=>HS.out) ?_
     simp only [Act.put,ls]
     refine lp2 15 rfl (fun _=>HS.out) ?_
     simp only [Act.put,ls]
     refine lt_done (by kernel_rfl) ?_
     replace HX:=Lib.hid HS.out
     clear HS
     clear dji dji2 hji
     have HAC:Hid (addC 16 ((L.drop i).take (j - i)) r.e=0):=Lib.hid (add_fits ht6 HNF.out (HLK.out.chk _ (List.mem_of_getElem? HR.out)) (by rw [← take_more hij HR.out];exact asc_mid HAS.out _ _))
     have HTM:Hid (addL 16 ((L.drop i).take (j - i)) r.e=(L.drop i).take (j + 1 - i)):=Lib.hid (by rw [add_list HAC.out,take_more hij HR.out])
     have HC3:Hid (cutR t [] (L.drop i)=cutR t ((L.drop i).take (j + 1 - i)) (L.drop (j + 1))):=Lib.hid (by rw [HCU.out,drop_one HR.out,cutR_add HNF.out,take_more hij HR.out])
     go_wp2_with (first
      | (refine wl_rowR rfl 60 (.tmp 100) rfl rfl (HRG.out _ HX.out.up) ent_rowR ?_)
      | (go_at_call 109;go_must (refine (add_any HB.out HX.out r.e r.A _ r.c r.B _ r.d r.D _ r.q (fun us z hz=>HEN.out z hz.up)).mono ?_);rintro e y5 ⟨he,os9,hb9,hx9⟩;rw [HAC.out] at he;subst he;rw [HTM.out] at hb9;have HB9:=Lib.hid hb9;have HX9:=Lib.hid hx9;clear hb9 hx9))
     go_roundw
     case rel=>exact ⟨j + 1,os9,by omega,by omega,by go_num,HB9,HC3,HX9⟩
     case measure=>simp [intOf];omega
    have dji:((j:Int) == (i:Int))=false:=beq_eq_false_iff_ne.2 (by omega)
    have dji2:(j == i)=false:=beq_eq_false_iff_ne.2 hji
    have HNN:Hid (((L.drop i).take (j - i)) ≠ []):=Lib.hid fun h=>by have:=HLN.out;rw [h] at this;simp at this;omega
    obtain ⟨sz,hsz⟩:∃ z,z=szB 16 ((L.drop i).take (j - i)):=⟨_,rfl⟩
    have HSZ:=Lib.hid hsz.symm
    have HSZ2:Hid (sizeS (runB 16 ((L.drop i).take (j - i)))=sz):=Lib.hid (by rw [hsz];unfold szB;rw [if_neg HNN.out])
    clear hsz
    by_cases hs:sz < t
    case pos =>
     have ds:decide ((sz:Int) < o.block)=true:=decide_eq_true (by omega)
     have HNF:Hid (¬ fullR t ((L.drop i).take (j - i))):=Lib.hid fun h=>by have:=h.2;rw [HSZ2.out] at this;omega
     clear HSZ2
     go_upto_region 15 with fail
     refine lt_start [] (by kernel_rfl) ?_
     intro xd hd
     refine ⟨fun z=>OW w (os ++ [oO,boxO g2 [.int .i64 o.block,.int .i64 o.bits,.int .i64 o.index,.int .i64 o.low,.int .i64 o.clock],bytO 5 (A8,c8,partsR (done))]) z,?_⟩
     have HS:=Lib.hid (HX.out.later hd)
     refine lp2 0 rfl (fun _=>HS.out) ?_
     simp only [Act.put,ls]
     refine lp2 1 rfl (fun _=>HS.out) ?_
     simp only [Act.put,ls]
     refine lp2 2 rfl (fun _=>HS.out) ?_
     simp only [Act.put,ls]
     refine lp2 3 rfl (fun _=>HS.out) ?_
     simp only [Act.put,ls]
     refine lp2 4 rfl (fun _=>HS.out) ?_
     simp only [Act.put,ls]
     refine lp2 5 rfl (fun _=>HS.out) ?_
     simp only [Act.put,ls]
     refine lp2 6 rfl (fun _=>HS.out) ?_
     simp only [Act.put,ls]
     refine lp2 7 rfl (fun _=>HS.out) ?_
     simp only [Act.put,ls]
     refine lp2 8 rfl (fun _=>HS.out) ?_
     simp only [Act.put,ls]
     refine lp2 9 rfl (fun _=>HS.out) ?_
     simp only [Act.put,ls]
     refine lp2 11 rfl (fun _=>HS.out) ?_
     simp only [Act.put,ls]
     refine lq 12 [13,14,15] rfl (yi_cell rfl rfl rfl (fun w hS=>OW.cellm hS (g:=g2) (cs:=[.int .i64 o.block,.int .i64 o.bits,.int .i64 o.index,.int .i64 o.low,.int .i64 o.clock]) (j:=0) (List.mem_append_right _ (.tail _ (.head _))) rfl) Tryz.isAgg3) HS.out ?_
     simp only [Act.put,ls]
     refine lt_call 10 rfl (by kernel_rfl) rfl rfl ⟨_,Tryz.func108,by decide,by kernel_rfl⟩ [.pointer (some ⟨g,0,none⟩)] rfl ?_
     refine (size_any HB.out HS.out).mono ?_
     rw [HSZ.out]
     rintro e z9 ⟨rfl,hb⟩
     replace HS:=Lib.hid (HS.out.later hb)
     clear hb
     refine ⟨_,rfl,fun _=>HS.out,?_⟩
     simp only [Act.put,ls]
     refine lp2 13 rfl (fun _=>HS.out) ?_
     simp only [Act.put,ls]
     refine lp2 14 rfl (fun _=>HS.out) ?_
     simp only [Act.put,ls]
     refine lp2 15 rfl (fun _=>HS.out) ?_
     simp only [Act.put,ls]
     refine lt_done (by kernel_rfl) ?_
     replace HX:=Lib.hid HS.out
     clear HS
     have HAC:Hid (addC 16 ((L.drop i).take (j - i)) r.e=0):=Lib.hid (add_fits ht6 HNF.out (HLK.out.chk _ (List.mem_of_getElem? HR.out)) (by rw [← take_more hij HR.out];exact asc_mid HAS.out _ _))
     have HTM:Hid (addL 16 ((L.drop i).take (j - i)) r.e=(L.drop i).take (j + 1 - i)):=Lib.hid (by rw [add_list HAC.out,take_more hij HR.out])
     have HC3:Hid (cutR t [] (L.drop i)=cutR t ((L.drop i).take (j + 1 - i)) (L.drop (j + 1))):=Lib.hid (by rw [HCU.out,drop_one HR.out,cutR_add HNF.out,take_more hij HR.out])
     go_wp2_with (first
      | (refine wl_rowR rfl 60 (.tmp 100) rfl rfl (HRG.out _ HX.out.up) ent_rowR ?_)
      | (go_at_call 109;go_must (refine (add_any HB.out HX.out r.e r.A _ r.c r.B _ r.d r.D _ r.q (fun us z hz=>HEN.out z hz.up)).mono ?_);rintro e y5 ⟨he,os9,hb9,hx9⟩;rw [HAC.out] at he;subst he;rw [HTM.out] at hb9;have HB9:=Lib.hid hb9;have HX9:=Lib.hid hx9;clear hb9 hx9))
     go_roundw
     case rel=>exact ⟨j + 1,os9,by omega,by omega,by go_num,HB9,HC3,HX9⟩
     case measure=>simp [intOf];omega
    have ds:decide ((sz:Int) < o.block)=false:=decide_eq_false (by omega)
    have HC2:Hid (cutR t [] (L.drop i)=((L.drop i).take (j - i))::cutR t [] (L.drop j)):=Lib.hid (by rw [HCU.out,cutR_full ⟨HNN.out,by rw [HSZ2.out];omega⟩])
    clear HSZ2
    go_upto_region 15 with fail
    refine lt_start [] (by kernel_rfl) ?_
    intro xd hd
    refine ⟨fun z=>OW w (os ++ [oO,boxO g2 [.int .i64 o.block,.int .i64 o.bits,.int .i64 o.index,.int .i64 o.low,.int .i64 o.clock],bytO 5 (A8,c8,partsR (done))]) z,?_⟩
    have HS:=Lib.hid (HX.out.later hd)
    refine lp2 0 rfl (fun _=>HS.out) ?_
    simp only [Act.put,ls]
    refine lp2 1 rfl (fun _=>HS.out) ?_
    simp only [Act.put,ls]
    refine lp2 2 rfl (fun _=>HS.out) ?_
    simp only [Act.put,ls]
    refine lp2 3 rfl (fun _=>HS.out) ?_
    simp only [Act.put,ls]
    refine lp2 4 rfl (fun _=>HS.out) ?_
    simp only [Act.put,ls]
    refine lp2 5 rfl (fun _=>HS.out) ?_
    simp only [Act.put,ls]
    refine lp2 6 rfl (fun _=>HS.out) ?_
    simp only [Act.put,ls]
    refine lp2 7 rfl (fun _=>HS.out) ?_
    simp only [Act.put,ls]
    refine lp2 8 rfl (fun _=>HS.out) ?_
    simp only [Act.put,ls]
    refine lp2 9 rfl (fun _=>HS.out) ?_
    simp only [Act.put,ls]
    refine lp2 11 rfl (fun _=>HS.out) ?_
    simp only [Act.put,ls]
    refine lq 12 [13,14,15] rfl (yi_cell rfl rfl rfl (fun w hS=>OW.cellm hS (g:=g2) (cs:=[.int .i64 o.block,.int .i64 o.bits,.int .i64 o.index,.int .i64 o.low,.int .i64 o.clock]) (j:=0) (List.mem_append_right _ (.tail _ (.head _))) rfl) Tryz.isAgg3) HS.out ?_
    simp only [Act.put,ls]
    refine lt_call 10 rfl (by kernel_rfl) rfl rfl ⟨_,Tryz.func108,by decide,by kernel_rfl⟩ [.pointer (some ⟨g,0,none⟩)] rfl ?_
    refine (size_any HB.out HS.out).mono ?_
    rw [HSZ.out]
    rintro e z9 ⟨rfl,hb⟩
    replace HS:=Lib.hid (HS.out.later hb)
    clear hb
    refine ⟨_,rfl,fun _=>HS.out,?_⟩
    simp only [Act.put,ls]
    refine lp2 13 rfl (fun _=>HS.out) ?_
    simp only [Act.put,ls]
    refine lp2 14 rfl (fun _=>HS.out) ?_
    simp only [Act.put,ls]
    refine lp2 15 rfl (fun _=>HS.out) ?_
    simp only [Act.put,ls]
    refine lt_done (by kernel_rfl) ?_
    replace HX:=Lib.hid HS.out
    clear HS
    go_wp2_with fail
    go_meet
    exact ⟨j,os,by omega,hjn,rfl,HB,HC2,HX⟩
  clear HX5 HB
  obtain ⟨j,os,hij,hjn,rfl,HB,HCU,HX⟩:=hcut
  obtain ⟨cn,hcn⟩:∃ z,z=((L.drop i).take (j - i)):=⟨_,rfl⟩
  rw [← hcn] at HB HCU
  have HCN:=Lib.hid hcn
  have HDJ:Hid ((done ++ [cn]) ++ cutR t [] (L.drop j)=cutR t [] L):=Lib.hid (by rw [← HD.out,HCU.out,List.append_assoc];rfl)
  have HCK:Hid (ChOk cn):=Lib.hid (HCH.out cn (by rw [← HDJ.out];exact List.mem_append_left _ (List.mem_append_right _ (.head _))))
  obtain ⟨bl,hbl⟩:∃ z,z=(layB 16 cn).length:=⟨_,rfl⟩
  have HBL:=Lib.hid hbl.symm
  have hbl2:9≤bl∧bl≤131072:=by rw [hbl];exact ⟨lay_pos HCK.out.ne,build_len HCK.out.bld HCK.out.ne⟩
  have HFI:Hid (finE 16 cn=(layB 16 cn,0)):=Lib.hid (by unfold finE;rw [if_neg HCK.out.ne])
  have HLN:Hid (cn.length=j - i):=Lib.hid (by rw [hcn,List.length_take,List.length_drop,HL.out];omega)
  obtain ⟨b,oo,r,hA,hb,hr,hrg,hen⟩:=(HES.out w (Below.refl _ _)).er hlt
  subst hA
  obtain ⟨b',o',q,heq,hb',hq,hqg,hqn⟩:=(HES.out w (Below.refl _ _)).er (show j - 1 < n by omega)
  injection heq with heq
  injection heq with hb9 ho9
  subst hb9 ho9
  have HRG:Hid (∀ z,Below w.heap.size w z→z.rangeAt b (oo + i * 7) [.slice r.A r.e.row.length r.c,.int .i64 r.e.fam,.slice r.B r.e.qual.length r.d,.int .i64 r.e.ts,.int .i64 r.e.seq,.int .i64 r.e.kind,.slice r.D r.e.val.length r.q]):=Lib.hid fun z hz k v hj=>(hz.cell (p:=⟨b,_,none⟩) hb).trans (hrg k v hj)
  have HEN:Hid (∀ z,Below w.heap.size w z→r.En z):=Lib.hid fun z hz=>hen.later hz
  have HQG:Hid (∀ z,Below w.heap.size w z→z.rangeAt b (oo + (j - 1) * 7) [.slice q.A q.e.row.length q.c,.int .i64 q.e.fam,.slice q.B q.e.qual.length q.d,.int .i64 q.e.ts,.int .i64 q.e.seq,.int .i64 q.e.kind,.slice q.D q.e.val.length q.q]):=Lib.hid fun z hz k v hj=>(hz.cell (p:=⟨b,_,none⟩) hb').trans (hqg k v hj)
  have HQN:Hid (∀ z,Below w.heap.size w z→q.En z):=Lib.hid fun z hz=>hqn.later hz
  have HFK:Hid (firstK cn=keyE r.e):=Lib.hid (firstK_at (by rw [hcn,List.getElem?_take,if_pos (by omega),List.getElem?_drop];exact hr))
  have HLA:Hid (lastK cn=keyE q.e):=Lib.hid (lastK_at (by rw [HLN.out,hcn,List.getElem?_take,if_pos (by omega),List.getElem?_drop,show i + (j - i - 1)=j - 1 from by omega];exact hq))
  have HKE:Hid (KeyE r.e=(firstK cn,0)):=Lib.hid (by unfold KeyE;rw [if_pos (HLK.out.chk _ (List.mem_of_getElem? hr)),HFK.out])
  have HKQ:Hid (KeyE q.e=(lastK cn,0)):=Lib.hid (by unfold KeyE;rw [if_pos (HLK.out.chk _ (List.mem_of_getElem? hq)),HLA.out])
  obtain ⟨k1,hk1⟩:∃ z,z=(firstK cn).length:=⟨_,rfl⟩
  obtain ⟨k2,hk2⟩:∃ z,z=(lastK cn).length:=⟨_,rfl⟩
  obtain ⟨p1,hp1⟩:∃ z,z=(keyB (firstK cn)).length:=⟨_,rfl⟩
  obtain ⟨p2,hp2⟩:∃ z,z=(keyB (lastK cn)).length:=⟨_,rfl⟩
  obtain ⟨p3,hp3⟩:∃ z,z=(uintB bl).length:=⟨_,rfl⟩
  have HK1:=Lib.hid hk1.symm
  have HK2:=Lib.hid hk2.symm
  have HP1:=Lib.hid hp1.symm
  have HP2:=Lib.hid hp2.symm
  have HP3:=Lib.hid hp3.symm
  have hkk:k1≤p1∧p1≤1058∧k2≤p2∧p2≤1058∧p3≤10:=by
   have h1:=keyB_le HCK.out
   have h2:=keyB_len (k:=firstK cn)
   have h3:=keyB_len (k:=lastK cn)
   have h4:=uintB_10 (v:=bl) (by omega)
   omega
  clear hcn hbl hb hr hrg hen hb' hq hqg hqn hk1 hk2 hp1 hp2 hp3
  have s1:IntKind.i64.wrap ((j:Int) - 1)=(j:Int) - 1:=i64_sum (by omega) (by omega)
  have s2:IntKind.i64.wrap ((nd:Int) + 1)=(nd:Int) + 1:=i64_sum (by omega) (by omega)
  have j0:(0:Int)≤(j:Int):=by omega
  have j1:(1:Int)≤(j:Int):=by omega
  have j2:(j:Int) - 1 < (n:Int):=by omega
  have j3:((j:Int) - 1).toNat=j - 1:=by omega
  have j4:(0:Int)≤(j:Int) - 1:=by omega
  have tk1:True:=trivial
  have tk2:True:=trivial
  go_upto_region 25 with (first
   | (go_at_call 110;go_must (refine (finish_any HB.out HX.out (HTB.out _ HX.out.up)).mono ?_);rw [HFI.out];rintro e x6 hp;obtain ⟨Ab,cb,rfl,_,ho,hb⟩:=hp.at_ (n:=bl) HBL.out rfl;have HX6:Hid (OW w [oO,boxO g2 [.int .i64 o.block,.int .i64 o.bits,.int .i64 o.index,.int .i64 o.low,.int .i64 o.clock],bytO 5 (A8,c8,partsR (done)),bytO 5 (Ab,cb,layB 16 cn)] x6):=Lib.hid (HX.out.right.app (OW.byt1 hb ho));clear hp ho hb HX HB)
   | (refine wl_rowR rfl 60 (.tmp 119) rfl rfl (HRG.out _ HX6.out.up) ent_rowR ?_)
   | (go_at_call 111;(have _t:=tk1);go_must (refine (key_any r.e r.A _ r.c r.B _ r.d r.D _ r.q _ (HEN.out _ HX6.out.up)).mono ?_);rw [HKE.out];rintro e x7 hp;obtain ⟨A1,c1,rfl,_,ho,hb⟩:=hp.at_ (n:=k1) HK1.out rfl;have HX7:Hid (OW w [oO,boxO g2 [.int .i64 o.block,.int .i64 o.bits,.int .i64 o.index,.int .i64 o.low,.int .i64 o.clock],bytO 5 (A8,c8,partsR (done)),bytO 5 (Ab,cb,layB 16 cn),bytO 5 (A1,c1,firstK cn)] x7):=Lib.hid (HX6.out.app (OW.byt1 hb ho));clear hp ho hb HX6 tk1 _t)
   | (refine wl_rowR rfl 60 (.tmp 128) rfl rfl (HQG.out _ HX7.out.up) ent_rowR ?_)
   | (go_at_call 111;go_must (refine (key_any q.e q.A _ q.c q.B _ q.d q.D _ q.q _ (HQN.out _ HX7.out.up)).mono ?_);rw [HKQ.out];rintro e x8 hp;obtain ⟨A2,c2,rfl,_,ho,hb⟩:=hp.at_ (n:=k2) HK2.out rfl;have HX8:Hid (OW w [oO,boxO g2 [.int .i64 o.block,.int .i64 o.bits,.int .i64 o.index,.int .i64 o.low,.int .i64 o.clock],bytO 5 (A8,c8,partsR (done)),bytO 5 (Ab,cb,layB 16 cn),bytO 5 (A1,c1,firstK cn),bytO 5 (A2,c2,lastK cn)] x8):=Lib.hid (HX7.out.app (OW.byt1 hb ho));clear hp ho hb HX7))
  have HPB:Hid ((headR done ++ layB 16 cn).length=l7 + bl):=Lib.hid (by rw [List.length_append,HL7.out,HBL.out])
  have HQ0:Hid ((partsR done).length=l8):=HL8
  have HQ1:Hid ((partsR done ++ keyB (firstK cn)).length=l8 + p1):=Lib.hid (by rw [List.length_append,HL8.out,HP1.out])
  have HQ2:Hid ((partsR done ++ keyB (firstK cn) ++ keyB (lastK cn)).length=l8 + p1 + p2):=Lib.hid (by rw [List.length_append,HQ1.out,HP2.out])
  have HQ3:Hid ((partsR done ++ keyB (firstK cn) ++ keyB (lastK cn) ++ uintB bl).length=l8 + p1 + p2 + p3):=Lib.hid (by rw [List.length_append,HQ2.out,HP3.out])
  have tk3:True:=trivial
  have tk4:True:=trivial
  have tk5:True:=trivial
  have tk6:True:=trivial
  have hzb:IntKind.u64.wrap (bl:Int)=(bl:Int):=IntWalk.u64_in _ ⟨by omega,by omega⟩
  go_upto_region 30 with (first
   | (at_builtin;(have _t:=tk3);go_must (refine wl_appO rfl (.tmp 133) (.tmp 134) rfl HX8.out HO.out HL7.out rfl Ab bl cb (layB 16 cn) rfl (HX8.out.sl (i:=3) rfl HBL.out).rb (by omega) (by omega) ?_);intro Ao co x9 hz;have HX9:Hid (OW w [bytO 5 (Ao,co,headR done ++ layB 16 cn),boxO g2 [.int .i64 o.block,.int .i64 o.bits,.int .i64 o.index,.int .i64 o.low,.int .i64 o.clock],bytO 5 (A8,c8,partsR (done)),bytO 5 (Ab,cb,layB 16 cn),bytO 5 (A1,c1,firstK cn),bytO 5 (A2,c2,lastK cn)] x9):=Lib.hid hz;clear hz HX8 tk3 _t)
   | (go_at_call 112;(have _t:=tk4);go_must (refine (bytes_any (firstK cn) A1 k1 c1 _ (by omega) (HX9.out.sl (i:=4) rfl HK1.out).rb).mono ?_);rintro e y1 hp;obtain ⟨Ax1,cx1,rfl,_,ho,hb⟩:=hp.at_ (n:=p1) HP1.out;have HXa:Hid (OW w [bytO 5 (Ao,co,headR done ++ layB 16 cn),boxO g2 [.int .i64 o.block,.int .i64 o.bits,.int .i64 o.index,.int .i64 o.low,.int .i64 o.clock],bytO 5 (A8,c8,partsR (done)),bytO 5 (Ab,cb,layB 16 cn),bytO 5 (A1,c1,firstK cn),bytO 5 (A2,c2,lastK cn),bytO 5 (Ax1,cx1,keyB (firstK cn))] y1):=Lib.hid (HX9.out.app (OW.byt1 hb ho));clear hp ho hb HX9 tk4 _t)
   | (at_builtin;(have _t:=tk5);go_must (refine wl_appB rfl (.tmp 136) (.tmp 138) rfl Tryz.u8s' HXa.out 2 rfl HQ0.out rfl _ Ax1 p1 cx1 (keyB (firstK cn)) rfl (HXa.out.sl (i:=6) rfl HP1.out).rb (by omega) ?_);intro Ap1 cp1 y2 hz;have HXb:Hid (OW w [bytO 5 (Ao,co,headR done ++ layB 16 cn),boxO g2 [.int .i64 o.block,.int .i64 o.bits,.int .i64 o.index,.int .i64 o.low,.int .i64 o.clock],bytO 5 (Ap1,cp1,partsR done ++ keyB (firstK cn)),bytO 5 (Ab,cb,layB 16 cn),bytO 5 (A1,c1,firstK cn),bytO 5 (A2,c2,lastK cn),bytO 5 (Ax1,cx1,keyB (firstK cn))] y2):=Lib.hid hz;clear hz HXa tk5 _t)
   | (go_at_call 112;go_must (refine (bytes_any (lastK cn) A2 k2 c2 _ (by omega) (HXb.out.sl (i:=5) rfl HK2.out).rb).mono ?_);rintro e y3 hp;obtain ⟨Ax2,cx2,rfl,_,ho,hb⟩:=hp.at_ (n:=p2) HP2.out;have HXc:Hid (OW w [bytO 5 (Ao,co,headR done ++ layB 16 cn),boxO g2 [.int .i64 o.block,.int .i64 o.bits,.int .i64 o.index,.int .i64 o.low,.int .i64 o.clock],bytO 5 (Ap1,cp1,partsR done ++ keyB (firstK cn)),bytO 5 (Ab,cb,layB 16 cn),bytO 5 (A1,c1,firstK cn),bytO 5 (A2,c2,lastK cn),bytO 5 (Ax1,cx1,keyB (firstK cn)),bytO 5 (Ax2,cx2,keyB (lastK cn))] y3):=Lib.hid (HXb.out.app (OW.byt1 hb ho));clear hp ho hb HXb)
   | (at_builtin;(have _t:=tk6);go_must (refine wl_appB rfl (.tmp 140) (.tmp 142) rfl Tryz.u8s' HXc.out 2 rfl HQ1.out rfl _ Ax2 p2 cx2 (keyB (lastK cn)) rfl (HXc.out.sl (i:=7) rfl HP2.out).rb (by omega) ?_);intro Ap2 cp2 y4 hz;have HXd:Hid (OW w [bytO 5 (Ao,co,headR done ++ layB 16 cn),boxO g2 [.int .i64 o.block,.int .i64 o.bits,.int .i64 o.index,.int .i64 o.low,.int .i64 o.clock],bytO 5 (Ap2,cp2,partsR done ++ keyB (firstK cn) ++ keyB (lastK cn)),bytO 5 (Ab,cb,layB 16 cn),bytO 5 (A1,c1,firstK cn),bytO 5 (A2,c2,lastK cn),bytO 5 (Ax1,cx1,keyB (firstK cn)),bytO 5 (Ax2,cx2,keyB (lastK cn))] y4):=Lib.hid hz;clear hz HXc tk6 _t)
   | (go_at_call 113;go_must (refine (uint_of bl _ (by first | rfl | exact hzb) _ (by omega)).mono ?_);rintro e y5 hp;obtain ⟨Ax3,cx3,rfl,_,ho,hb⟩:=hp.at_ (n:=p3) HP3.out;have HXe:Hid (OW w [bytO 5 (Ao,co,headR done ++ layB 16 cn),boxO g2 [.int .i64 o.block,.int .i64 o.bits,.int .i64 o.index,.int .i64 o.low,.int .i64 o.clock],bytO 5 (Ap2,cp2,partsR done ++ keyB (firstK cn) ++ keyB (lastK cn)),bytO 5 (Ab,cb,layB 16 cn),bytO 5 (A1,c1,firstK cn),bytO 5 (A2,c2,lastK cn),bytO 5 (Ax1,cx1,keyB (firstK cn)),bytO 5 (Ax2,cx2,keyB (lastK cn)),bytO 5 (Ax3,cx3,uintB bl)] y5):=Lib.hid (HXd.out.app (OW.byt1 hb ho));clear hp ho hb HXd)
   | (at_builtin;go_must (refine wl_appB rfl (.tmp 144) (.tmp 148) rfl Tryz.u8s' HXe.out 2 rfl HQ2.out rfl _ Ax3 p3 cx3 (uintB bl) rfl (HXe.out.sl (i:=8) rfl HP3.out).rb (by omega) ?_);intro Ap3 cp3 y6 hz;have HXf:Hid (OW w ([bytO 5 (Ao,co,headR done ++ layB 16 cn),boxO g2 [.int .i64 o.block,.int .i64 o.bits,.int .i64 o.index,.int .i64 o.low,.int .i64 o.clock],bytO 5 (Ap3,cp3,partsR done ++ keyB (firstK cn) ++ keyB (lastK cn) ++ uintB bl)] ++ [bytO 5 (Ab,cb,layB 16 cn),bytO 5 (A1,c1,firstK cn),bytO 5 (A2,c2,lastK cn),bytO 5 (Ax1,cx1,keyB (firstK cn)),bytO 5 (Ax2,cx2,keyB (lastK cn)),bytO 5 (Ax3,cx3,uintB bl)]) y6):=Lib.hid hz;clear hz HXe))
  have HH:Hid (headR done ++ layB 16 cn=headR (done ++ [cn])):=Lib.hid (headR_snoc done cn).symm
  have HPP:Hid (partsR done ++ keyB (firstK cn) ++ keyB (lastK cn) ++ uintB bl=partsR (done ++ [cn])):=Lib.hid (by rw [partsR_snoc,HBL.out])
  have HNC:Hid ((done ++ [cn]).length=nd + 1):=Lib.hid (by rw [List.length_append,HND.out];rfl)
  have HPL:Hid (l8 + p1 + p2 + p3≤2200 * (nd + 1)):=Lib.hid (by
   have h1:=partsR_le (cs:=done ++ [cn]) fun x hx=>HCH.out x (by rw [← HDJ.out];exact List.mem_append_left _ hx)
   rw [← HPP.out,HQ3.out,HNC.out] at h1;exact h1)
  by_cases hbig:16777216 < l7 + bl
  case pos =>
   have dd:decide ((l7:Int) + (bl:Int) > 16777216)=true:=decide_eq_true (by omega)
   have dd2:decide (16777216 < (l7:Int) + (bl:Int))=true:=decide_eq_true (by omega)
   have HW:Hid (writeR o L=([],2)):=Lib.hid (wlong_no HRF.out (by
    have h1:=runC_head o L (cutR t [] L)
    rw [← HDJ.out,headR_app,List.length_append,← HH.out,HPB.out,HDJ.out] at h1
    rw [HRB.out];omega))
   go_wp2_with fail
   go_ret2
   exact err_post HXf.out.up HW.out
  have dd:decide ((l7:Int) + (bl:Int) > 16777216)=false:=decide_eq_false (by omega)
  have dd2:decide (16777216 < (l7:Int) + (bl:Int))=false:=decide_eq_false (by omega)
  go_wp2_with fail
  go_roundw
  case rel=>exact ⟨j,l7 + bl,l8 + p1 + p2 + p3,nd + 1,Ao,co,Ap3,cp3,done ++ [cn],_,hjn,by omega,by omega,HPL.out,by go_num,by go_num,by go_num,rfl,HNC,Lib.hid (by rw [← HH.out];exact HPB.out),Lib.hid (by rw [← HPP.out];exact HQ3.out),HDJ,Lib.hid (.inl rfl),Lib.hid (by rw [← HH.out,← HPP.out];exact HXf.out.left)⟩
  case measure=>simp [intOf];omega
end Go.Proofs.YtfdbcfaeiglbeaaGreatDoor
