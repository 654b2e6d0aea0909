/-
 RunD, RunW7, RunW8, RunW9, RunW11, RunW2.
-/
import Derived.Test.YtfdbcfaeiglbeaaGreatDoorRZ23
import Derived.Test.YtfdbcfaeiglbeaaGreatDoorRZ24
namespace Go.Proofs.YtfdbcfaeiglbeaaGreatDoor
open Go.RowKit
structure PRec where
  A:Option Addr
  c:Nat
  B:Option Addr
  d:Nat
  p:PcR
def PRec.cells (r:PRec):List Value:=[.slice r.A r.p.a.length r.c,.slice r.B r.p.b.length r.d,.int .i64 r.p.lo,.int .i64 r.p.hi]
def PRec.obs (r:PRec):List Ob:=[bytO 5 (r.A,r.c,r.p.a),bytO 5 (r.B,r.d,r.p.b)]
theorem Tryz.partS:SliceOf Tryz.prog 133 137 4 64:=SliceOf.mk' (z := .agg #[.slice none 0 0,.slice none 0 0,.int .i64 0,.int .i64 0]) Tryz.underlying133 (by kernel_rfl) rfl (by decide)
theorem part_row:RowTy Tryz.prog 137 4:=⟨⟨_,Tryz.underlying137,rfl⟩,by kernel_rfl⟩
theorem pflat_len (rs:List PRec):(rs.flatMap PRec.cells).length=rs.length * 4:=by
 induction rs with
 | nil=>rfl
 | cons r rs ih=>rw [List.flatMap_cons,List.length_append,ih,List.length_cons];show 4 + _=_;omega
theorem pflat_at {rs:List PRec} {k j:Nat} {r:PRec} {v:Value} (hk:rs[k]?=some r) (hj:r.cells[j]?=some v):(rs.flatMap PRec.cells)[k * 4 + j]?=some v:=by
 have hj4:j < 4:=(List.getElem?_eq_some_iff.1 hj).1
 induction rs generalizing k with
 | nil=>cases hk
 | cons a rs ih =>
  cases k with
  | zero =>
   cases hk
   rw [List.flatMap_cons,List.getElem?_append_left (by show 0 * 4 + j < 4;omega),Nat.zero_mul,Nat.zero_add];exact hj
  | succ k =>
   rw [List.flatMap_cons,List.getElem?_append_right (by show 4≤(k + 1) * 4 + j;omega)]
   have:(k + 1) * 4 + j - a.cells.length=k * 4 + j:=by show (k + 1) * 4 + j - 4=_;omega
   rw [this]
   exact ih hk
theorem u64_of (v:Nat) (h:v≤18446744073709551615):IntKind.u64.wrap (v:Int)=(v:Int):=IntWalk.u64_in _ ⟨by omega,by omega⟩
theorem lastB_snoc (rs:List PRec) (r:PRec):lastB ((rs ++ [r]).map PRec.p)=some r.p.b:=by unfold lastB;rw [List.map_append];simp
theorem idx_perm (a b:Ob) (X:List Ob):((a::X) ++ [b]).Perm (a::b::X):=by (refine perm_of_cnt fun a=>?_;(simp only [cntO_app,cntO_cons,cntO_nil]) <;> omega)
theorem idx_perm2 (a b c:Ob) (X:List Ob):((a::b::X) ++ [c]).Perm (a::b::c::X):=by (refine perm_of_cnt fun a=>?_;(simp only [cntO_app,cntO_cons,cntO_nil]) <;> omega)
theorem idx_fin (l b a c r:Ob) (X:List Ob):(l::b::a::c::r::X).Perm ((r::(X ++ [a,c])) ++ [l,b]):=by (refine perm_of_cnt fun a=>?_;(simp only [cntO_app,cntO_cons,cntO_nil]) <;> omega)
theorem pcells_snoc (rs:List PRec) (r:PRec):(rs ++ [r]).flatMap PRec.cells=rs.flatMap PRec.cells ++ r.cells:=by rw [List.flatMap_append];simp
theorem pobs_snoc (rs:List PRec) (r:PRec):(rs ++ [r]).flatMap PRec.obs=rs.flatMap PRec.obs ++ r.obs:=by rw [List.flatMap_append];simp
theorem prow_cell {w x:World} {os:List Ob} {g m c k j:Nat} {rs:List PRec} {r:PRec} {v:Value} (h:OW w os x) (hm:rowO 137 4 (.slice (some ⟨g,0,none⟩) m c) m (rs.flatMap PRec.cells) ∈ os) (hk:rs[k]?=some r) (hj:r.cells[j]?=some v):x.cell? ⟨g,k * 4 + j,none⟩=some v:=by
 have h1:=h.rowm hm
 have h2:=Reads.own h1
 have hc:=pflat_at hk hj
 have hpos:0 < m:=by
  have h3:=h1.1
  rw [pflat_len] at h3
  have:=(List.getElem?_eq_some_iff.1 hk).1
  omega
 obtain ⟨b,o,he,_,hcell⟩:=h2.2 hpos
 injection he with he
 injection he with hb ho
 subst hb ho
 have:=hcell _ _ hc
 rwa [Nat.zero_add] at this
structure RunRec where
  g:Nat
  gb:Nat
  cb:Nat
  PA:Option Addr
  pc:Nat
  f1:PRec
  fn:PRec
  rs:List PRec
  ff:Nat
  r:RunR
def RunRec.cells (q:RunRec):List Value:=[.slice (some ⟨q.gb,0,none⟩) q.r.bytes.length q.cb,.int .i64 0,.int .i64 q.r.count,.int .i64 q.r.index,.int .i64 q.r.low,.int .i64 q.r.clock,.int .i64 q.r.bytes.length,.slice q.f1.A q.f1.p.a.length q.f1.c,.slice q.fn.B q.fn.p.b.length q.fn.d,.slice q.PA q.rs.length q.pc,.slice (some ⟨q.gb,q.ff,none⟩) q.r.filt.length (q.cb - q.ff)]
def RunRec.obs (q:RunRec):List Ob:=boxO q.g q.cells::bytO 5 (some ⟨q.gb,0,none⟩,q.cb,q.r.bytes)::rowO 137 4 (.slice q.PA q.rs.length q.pc) q.rs.length (q.rs.flatMap PRec.cells)::q.rs.flatMap PRec.obs
structure RunRec.Ok (q:RunRec):Prop where
  ps:q.rs.map PRec.p=q.r.ps
  first:q.rs[0]?=some q.f1
  last:q.rs[q.rs.length - 1]?=some q.fn
  filt:q.r.filt=cutS q.r.bytes q.ff q.r.filt.length∧q.ff + q.r.filt.length≤q.r.bytes.length∧q.ff < q.r.bytes.length
  len:q.r.bytes.length≤16777216
theorem run_row:RowTy Tryz.prog 47 8:=⟨⟨_,Tryz.underlying47,rfl⟩,by kernel_rfl⟩
def RunAt (q:RunRec) (x:World):Prop:=q.Ok∧∃ w,OW w q.obs x
theorem RunAt.later {q:RunRec} {x y:World} (h:RunAt q x) (hb:Below x.heap.size x y):RunAt q y:=by
 obtain ⟨h1,w,h2⟩:=h
 exact ⟨h1,w,h2.later hb⟩
theorem RunAt.cell {q:RunRec} {x:World} {j:Nat} {v:Value} (h:RunAt q x) (hv:q.cells[j]?=some v):x.cell? ⟨q.g,j,none⟩=some v:=by
 obtain ⟨_,w,h2⟩:=h
 exact h2.cell (i:=0) rfl hv
def RunRec.meta (q:RunRec):List Value:=[.int .i64 0,.int .i64 q.r.count,.int .i64 q.r.index,.int .i64 q.r.low,.int .i64 q.r.clock,.int .i64 q.r.bytes.length,.slice q.f1.A q.f1.p.a.length q.f1.c,.slice q.fn.B q.fn.p.b.length q.fn.d]
theorem RunAt.metaR {q:RunRec} {x:World} (h:RunAt q x):x.rangeAt q.g 1 q.meta:=by
 obtain ⟨_,w,h2⟩:=h
 exact h2.part (i:=0) rfl 1 8
theorem RunAt.bytes {q:RunRec} {x:World} (h:RunAt q x):Sl x (some ⟨q.gb,0,none⟩) q.r.bytes.length q.cb q.r.bytes:=by
 obtain ⟨_,w,h2⟩:=h
 exact h2.sl (i:=1) rfl rfl
theorem RunAt.recm {q:RunRec} {x:World} {r:PRec} {k:Nat} (h:RunAt q x) (hr:q.rs[k]?=some r):Sl x r.A r.p.a.length r.c r.p.a∧Sl x r.B r.p.b.length r.d r.p.b:=by
 obtain ⟨_,w,h2⟩:=h
 have hm:=List.mem_of_getElem? hr
 constructor
 ·exact h2.slm (T:=5) (by unfold RunRec.obs;exact List.mem_cons_of_mem _ (List.mem_cons_of_mem _ (List.mem_cons_of_mem _ (List.mem_flatMap.2 ⟨r,hm,by simp [PRec.obs]⟩)))) rfl
 ·exact h2.slm (T:=5) (by unfold RunRec.obs;exact List.mem_cons_of_mem _ (List.mem_cons_of_mem _ (List.mem_cons_of_mem _ (List.mem_flatMap.2 ⟨r,hm,by simp [PRec.obs]⟩)))) rfl
theorem RunAt.firstS {q:RunRec} {x:World} (h:RunAt q x):Sl x q.f1.A q.f1.p.a.length q.f1.c q.f1.p.a:=(h.recm h.1.first).1
theorem RunAt.lastS {q:RunRec} {x:World} (h:RunAt q x):Sl x q.fn.B q.fn.p.b.length q.fn.d q.fn.p.b:=(h.recm h.1.last).2
def MetaP (q:RunRec) (w:World) (e:Ending) (z:World):Prop :=
 ∃ A c B d,e = .returned (.agg #[.int .i64 0,.int .i64 q.r.count,.int .i64 q.r.index,.int .i64 q.r.low,.int .i64 q.r.clock,.int .i64 q.r.bytes.length,.slice A q.f1.p.a.length c,.slice B q.fn.p.b.length d])∧OW w [bytO 5 (A,c,q.f1.p.a),bytO 5 (B,d,q.fn.p.b)] z
set_option maxRecDepth 1000000 in
set_option maxHeartbeats 4000000 in
theorem meta_any (q:RunRec) (w:World) (h:RunAt q w) (hk:q.f1.p.a.length≤100000000∧q.fn.p.b.length≤100000000) :
  Calls Tryz.prog 28 #[.pointer (some ⟨q.g,0,none⟩)] w (MetaP q w):=by
 have HR:Hid (∀ z,Below w.heap.size w z→z.rangeAt q.g 1 q.meta):=Lib.hid fun z hz=>(h.later hz).metaR
 have HS1:Hid (∀ z,Below w.heap.size w z→Sl z q.f1.A q.f1.p.a.length q.f1.c q.f1.p.a):=Lib.hid fun z hz=>(h.later hz).firstS
 have HS2:Hid (∀ z,Below w.heap.size w z→Sl z q.fn.B q.fn.p.b.length q.fn.d q.fn.p.b):=Lib.hid fun z hz=>(h.later hz).lastS
 have HK:=Lib.hid hk
 have HP:Hid (∀ e z,(∃ A c B d,e=Ending.returned (.agg #[.int .i64 0,.int .i64 q.r.count,.int .i64 q.r.index,.int .i64 q.r.low,.int .i64 q.r.clock,.int .i64 q.r.bytes.length,.slice A q.f1.p.a.length c,.slice B q.fn.p.b.length d])∧OW w [bytO 5 (A,c,q.f1.p.a),bytO 5 (B,d,q.fn.p.b)] z)→MetaP q w e z):=Lib.hid fun e z h=>h
 unfold RunRec.meta at HR
 clear h hk
 obtain ⟨g,hg⟩:∃ g,g=q.g:=⟨_,rfl⟩
 obtain ⟨f1,hf1⟩:∃ g,g=q.f1:=⟨_,rfl⟩
 obtain ⟨fn,hfn⟩:∃ g,g=q.fn:=⟨_,rfl⟩
 obtain ⟨bl,hbl⟩:∃ g,g=q.r.bytes.length:=⟨_,rfl⟩
 obtain ⟨q0,hq0⟩:∃ g,g=q.r.count:=⟨_,rfl⟩
 obtain ⟨q1,hq1⟩:∃ g,g=q.r.index:=⟨_,rfl⟩
 obtain ⟨q2,hq2⟩:∃ g,g=q.r.low:=⟨_,rfl⟩
 obtain ⟨q3,hq3⟩:∃ g,g=q.r.clock:=⟨_,rfl⟩
 simp only [← hg,← hf1,← hfn,← hbl,← hq0,← hq1,← hq2,← hq3] at HR HS1 HS2 HK HP ⊢
 obtain ⟨MP,hMP⟩:∃ m,m=MetaP q w:=⟨_,rfl⟩
 rw [← hMP] at HP ⊢
 clear hg hf1 hfn hbl hq0 hq1 hq2 hq3 hMP
 obtain ⟨a1,hA1⟩:∃ g,g=f1.p.a.length:=⟨_,rfl⟩
 obtain ⟨b1,hB1⟩:∃ g,g=fn.p.b.length:=⟨_,rfl⟩
 rw [← hA1] at HR HS1 HK HP
 rw [← hB1] at HR HS2 HK HP
 have HL1:=Lib.hid hA1.symm
 have HL2:=Lib.hid hB1.symm
 clear hA1 hB1
 have HX:=Lib.hid (OW.nil w)
 go_enter Tryz.func28,Tryz.ntmps28
 go_upto_region 2 with (first
  | (refine wl_alloc rfl rfl [.int .i64 0,.int .i64 0,.int .i64 0,.int .i64 0,.int .i64 0,.int .i64 0,.slice none 0 0,.slice none 0 0] (.inl (by kernel_rfl)) HX.out ?_;intro g2 x2 hz _;have HX2:Hid (OW w [boxO g2 [.int .i64 0,.int .i64 0,.int .i64 0,.int .i64 0,.int .i64 0,.int .i64 0,.slice none 0 0,.slice none 0 0]] x2):=Lib.hid hz;clear hz HX)
  | (refine wl_alloc rfl rfl [.int .i64 0,.int .i64 0,.int .i64 0,.int .i64 0,.int .i64 0,.int .i64 0,.slice none 0 0,.slice none 0 0] (.inl (by kernel_rfl)) HX2.out ?_;intro g3 x3 hz _;have HX3:Hid (OW w [boxO g2 [.int .i64 0,.int .i64 0,.int .i64 0,.int .i64 0,.int .i64 0,.int .i64 0,.slice none 0 0,.slice none 0 0],boxO g3 [.int .i64 0,.int .i64 0,.int .i64 0,.int .i64 0,.int .i64 0,.int .i64 0,.slice none 0 0,.slice none 0 0]] x3):=Lib.hid hz;clear hz HX2)
  | (refine wl_rowR rfl 47 (.tmp 6) rfl rfl (HR.out _ HX2.out.up) run_row ?_)
  | (refine wl_put rfl (.tmp 3) (.tmp 7) rfl HX3.out 1 rfl rfl [.int .i64 0,.int .i64 q0,.int .i64 q1,.int .i64 q2,.int .i64 q3,.int .i64 bl,.slice f1.A a1 f1.c,.slice fn.B b1 fn.d] rfl rfl (by kernel_rfl) (by simp [Value.oneCell']) ?_;intro x4 hz _;have HX4:Hid (OW w [boxO g2 [.int .i64 0,.int .i64 0,.int .i64 0,.int .i64 0,.int .i64 0,.int .i64 0,.slice none 0 0,.slice none 0 0],boxO g3 [.int .i64 0,.int .i64 q0,.int .i64 q1,.int .i64 q2,.int .i64 q3,.int .i64 bl,.slice f1.A a1 f1.c,.slice fn.B b1 fn.d]] x4):=Lib.hid hz;clear hz HX3))
 refine lt_start [7,9] (by kernel_rfl) ?_
 intro xd hd
 refine ⟨fun z=>OW w [boxO g2 [.int .i64 0,.int .i64 0,.int .i64 0,.int .i64 0,.int .i64 0,.int .i64 0,.slice none 0 0,.slice none 0 0],boxO g3 [.int .i64 0,.int .i64 q0,.int .i64 q1,.int .i64 q2,.int .i64 q3,.int .i64 bl,.slice f1.A a1 f1.c,.slice fn.B b1 fn.d]] z,?_⟩
 have HX5:Hid (OW w [boxO g2 [.int .i64 0,.int .i64 0,.int .i64 0,.int .i64 0,.int .i64 0,.int .i64 0,.slice none 0 0,.slice none 0 0],boxO g3 [.int .i64 0,.int .i64 q0,.int .i64 q1,.int .i64 q2,.int .i64 q3,.int .i64 bl,.slice f1.A a1 f1.c,.slice fn.B b1 fn.d]] xd):=Lib.hid (HX4.out.later hd)
 have HS:=Lib.hid (HX4.out.later hd)
 refine lp2 0 rfl (fun _=>HS.out) ?_
 simp only [Act.put,ls]
 refine lq 1 [2,5,6,7,8,9] rfl (yi_cell rfl rfl rfl (fun w hS=>OW.cell hS (i:=1) (j:=6) rfl rfl) Tryz.isAgg34) HS.out ?_
 simp only [Act.put,ls]
 refine lp2 3 rfl (fun _=>HS.out) ?_
 simp only [Act.put,ls]
 refine lq 4 [5,6,7,8,9] rfl (yi_cell rfl rfl rfl (fun w hS=>OW.cell hS (i:=1) (j:=7) rfl rfl) Tryz.isAgg34) HS.out ?_
 simp only [Act.put,ls]
 refine lt_call 2 rfl (by kernel_rfl) rfl rfl ⟨_,Tryz.func69,by decide,by kernel_rfl⟩ [.slice f1.A a1 f1.c] rfl ?_
 refine (clone_any f1.p.a f1.A a1 f1.c _ (by have:=HK.out;omega) (HS1.out _ HS.out.up).nil (HS1.out _ HS.out.up).rb).mono ?_
 rintro e x5 hp
 obtain ⟨A5,c5,rfl,_,ho,hb⟩:=hp.at_ HL1.out
 replace HX5:=Lib.hid (HX5.out.app (OW.byt1 hb ho))
 replace HS:=Lib.hid (HS.out.later hb)
 clear hp ho hb
 refine ⟨_,rfl,fun _=>HS.out,?_⟩
 simp only [Act.put,ls]
 refine lp2 6 rfl (fun _=>HS.out) ?_
 simp only [Act.put,ls]
 refine lt_call 5 rfl (by kernel_rfl) rfl rfl ⟨_,Tryz.func69,by decide,by kernel_rfl⟩ [.slice fn.B b1 fn.d] rfl ?_
 refine (clone_any fn.p.b fn.B b1 fn.d _ (by have:=HK.out;omega) (HS2.out _ HS.out.up).nil (HS2.out _ HS.out.up).rb).mono ?_
 rintro e x6 hp
 obtain ⟨A6,c6,rfl,_,ho,hb⟩:=hp.at_ HL2.out
 replace HX5:=Lib.hid (HX5.out.app (OW.byt1 hb ho))
 replace HS:=Lib.hid (HS.out.later hb)
 clear hp ho hb
 refine ⟨_,rfl,fun _=>HS.out,?_⟩
 simp only [Act.put,ls]
 refine lt_end 7 rfl (by kernel_rfl) rfl (by kernel_rfl) ?_
 refine wpo_put1 rfl HX5.out 1 rfl 6 rfl (by simp) _ rfl (by kernel_rfl) rfl ?_
 intro x7 hz _
 replace HX5:=Lib.hid hz
 clear hz
 simp only [Act.put]
 refine lt_pureF 8 rfl (by kernel_rfl) (by kernel_rfl) (by kernel_rfl) (by kernel_rfl) (by kernel_rfl) (fun _ _ _ h=>h) (v:=?_) (yi_run rfl (fun w=>?_)) ?_
 rotate_left
 ·first | (go_simp;done) | (go_simp;with_reducible rfl)
 simp only [Act.put,ls]
 refine lt_end 9 rfl (by kernel_rfl) rfl (by kernel_rfl) ?_
 refine wpo_put1 rfl HX5.out 1 rfl 7 rfl (by simp) _ rfl (by kernel_rfl) rfl ?_
 intro x8 hz _
 replace HX5:=Lib.hid hz
 clear hz
 simp only [Act.put]
 refine lt_done (by kernel_rfl) ?_
 clear HS
 have HX8:Hid (OW w [boxO g2 [.int .i64 0,.int .i64 0,.int .i64 0,.int .i64 0,.int .i64 0,.int .i64 0,.slice none 0 0,.slice none 0 0],boxO g3 [.int .i64 0,.int .i64 q0,.int .i64 q1,.int .i64 q2,.int .i64 q3,.int .i64 bl,.slice A5 a1 c5,.slice A6 b1 c6],bytO 5 (A5,c5,f1.p.a),bytO 5 (A6,c6,fn.p.b)] x8):=HX5
 clear HX5
 go_wp2_with (first
  | (refine wl_rowR rfl 47 (.tmp 3) rfl rfl (HX8.out.range (i:=1) rfl) run_row ?_)
  | (refine wl_put rfl (.tmp 2) (.tmp 16) rfl HX8.out 0 rfl rfl [.int .i64 0,.int .i64 q0,.int .i64 q1,.int .i64 q2,.int .i64 q3,.int .i64 bl,.slice A5 a1 c5,.slice A6 b1 c6] rfl rfl (by kernel_rfl) (by simp [Value.oneCell']) ?_;intro x9 hz _;have HX9:Hid (OW w [boxO g2 [.int .i64 0,.int .i64 q0,.int .i64 q1,.int .i64 q2,.int .i64 q3,.int .i64 bl,.slice A5 a1 c5,.slice A6 b1 c6],boxO g3 [.int .i64 0,.int .i64 q0,.int .i64 q1,.int .i64 q2,.int .i64 q3,.int .i64 bl,.slice A5 a1 c5,.slice A6 b1 c6],bytO 5 (A5,c5,f1.p.a),bytO 5 (A6,c6,fn.p.b)] x9):=Lib.hid hz;clear hz))
 refine bodyPost_ret (results_rowL rfl _ _ g2 _ rfl (HX9.out.range (i:=0) rfl) (by kernel_rfl) (by kernel_rfl)) rfl ?_
 refine HP.out _ _ ⟨A5,c5,A6,c6,rfl,?_⟩
 exact (HX9.out.erase 0).erase 0
theorem RunAt.partR {q:RunRec} {x:World} {k:Nat} {r:PRec} (h:RunAt q x) (hk:q.rs[k]?=some r):∃ g3,q.PA=some ⟨g3,0,none⟩∧x.rangeAt g3 (k * 4) r.cells:=by
 obtain ⟨_,w,h2⟩:=h
 have hpos:0 < q.rs.length:=by have:=(List.getElem?_eq_some_iff.1 hk).1;omega
 obtain ⟨g,cap,e1,_,_,_⟩:=own_form (h2.row (i:=2) rfl) hpos
 injection e1 with e1 _ _
 have h3:OW w (boxO q.g q.cells::bytO 5 (some ⟨q.gb,0,none⟩,q.cb,q.r.bytes)::rowO 137 4 (.slice (some ⟨g,0,none⟩) q.rs.length q.pc) q.rs.length (q.rs.flatMap PRec.cells)::q.rs.flatMap PRec.obs) x:=by rw [← e1];exact h2
 refine ⟨g,e1,fun j v hv=>?_⟩
 exact prow_cell (g:=g) (m:=q.rs.length) (c:=q.pc) h3 (by simp) hk hv
theorem key20 (A B:Option Addr) (a1 c b1 d M:Nat) (w:World):(Instr.index 243 (.agg #[.int .i64 0,.slice A a1 c,.int .i64 (M:Int),.slice B b1 d]) (.int .i64 ((0:Nat):Int))).run Tryz.prog w = .ok (.agg #[.int .i64 0,.slice A a1 c]) w:=by kernel_rfl
theorem key21 (A B:Option Addr) (a1 c b1 d M:Nat) (w:World):(Instr.index 243 (.agg #[.int .i64 0,.slice A a1 c,.int .i64 (M:Int),.slice B b1 d]) (.int .i64 ((1:Nat):Int))).run Tryz.prog w = .ok (.agg #[.int .i64 (M:Int),.slice B b1 d]) w:=by kernel_rfl
theorem rowK_pos {al:Nat} {k v:List UInt8}:1≤(rowK al k v).length:=by
 unfold rowK
 simp only [List.length_append]
 have:=uintB_pos al
 omega
theorem runE_few (R:Nat):∀ (L:List Ent) (s:BSt),s.body.length + L.length≤(runE R s L).body.length
 | [],_=>Nat.le_refl _
 | e::L,s=>by
  have h1:=runE_few R L (stepB R s (keyE e) e.val)
  have h2:(stepB R s (keyE e) e.val).body.length=s.body.length + (rowK (alikeB R s (keyE e)) (keyE e) e.val).length:=by unfold stepB;rw [List.length_append]
  have h3:=rowK_pos (al:=alikeB R s (keyE e)) (k:=keyE e) (v:=e.val)
  show s.body.length + (L.length + 1)≤(runE R (stepB R s (keyE e) e.val) L).body.length
  omega
theorem blk_few {R:Nat} {L:List Ent} {b:List UInt8} (h:buildE5 (R:Int) L=(b,0)):L.length≤b.length:=by
 obtain ⟨_,_,_,_,h5,_⟩:=build_parts h
 have h1:=runE_few R L bst0
 rw [h5,layS_len]
 unfold sizeS runB
 omega
theorem openE_len {b:List UInt8} {L:List Ent} (h:(openE b).1=some L):b.length≤131072:=(openE_ne h).2
def LoadP (q:RunRec) (p:PcR) (w:World) (e:Ending) (z:World):Prop :=
 (∃ L g os,blkR q.r p=some L∧e = .returned (.pointer (some ⟨g,0,none⟩))∧Bk5 (resB (cutS q.r.bytes p.lo (p.hi - p.lo))) L g os∧OW w os z)∨(blkR q.r p=none∧e = .returned (.pointer none)∧Below w.heap.size w z)
set_option maxRecDepth 1000000 in
set_option maxHeartbeats 4000000 in
theorem load_any (q:RunRec) (w:World) (h:RunAt q w) (k:Nat) (r:PRec) (hk:q.rs[k]?=some r) (hin:PcIn 8 q.r.bytes.length r.p) (ht:TabAt 0 w) :
  Calls Tryz.prog 85 #[.pointer (some ⟨q.g,0,none⟩),.int .i64 k] w (LoadP q r.p w):=by
 have hkl:=(List.getElem?_eq_some_iff.1 hk).1
 obtain ⟨g3,hPA,_⟩:=h.partR hk
 have HR:Hid (∀ z,Below w.heap.size w z→z.rangeAt g3 (k * 4) r.cells):=Lib.hid fun z hz=>by
  obtain ⟨g',h1,h2⟩:=(h.later hz).partR hk
  rw [hPA] at h1
  injection h1 with h1
  injection h1 with h1 _ _
  subst h1
  exact h2
 have HC9:Hid (∀ z,Below w.heap.size w z→z.cell? ⟨q.g,9,none⟩=some (.slice (some ⟨g3,0,none⟩) q.rs.length q.pc)):=Lib.hid fun z hz=>(h.later hz).cell (j:=9) (by rw [← hPA];rfl)
 have HC0:Hid (∀ z,Below w.heap.size w z→z.cell? ⟨q.g,0,none⟩=some (.slice (some ⟨q.gb,0,none⟩) q.r.bytes.length q.cb)):=Lib.hid fun z hz=>(h.later hz).cell (j:=0) rfl
 have HB:Hid (∀ z,Below w.heap.size w z→Sl z (some ⟨q.gb,0,none⟩) q.r.bytes.length q.cb q.r.bytes):=Lib.hid fun z hz=>(h.later hz).bytes
 have HKS:Hid (∀ z,Below w.heap.size w z→Sl z r.A r.p.a.length r.c r.p.a∧Sl z r.B r.p.b.length r.d r.p.b):=Lib.hid fun z hz=>(h.later hz).recm hk
 have HTB:Hid (∀ z,Below w.heap.size w z→TabAt 0 z):=Lib.hid fun z hz=>ht.later hz
 have HIN:=Lib.hid hin
 have HX:=Lib.hid (OW.nil w)
 unfold PRec.cells at HR
 obtain ⟨g,hg⟩:∃ g,g=q.g:=⟨_,rfl⟩
 obtain ⟨m,hm⟩:∃ g,g=q.rs.length:=⟨_,rfl⟩
 obtain ⟨n,hn⟩:∃ g,g=q.r.bytes.length:=⟨_,rfl⟩
 rw [← hg] at HC9 HC0 ⊢
 rw [← hm] at HC9 hkl
 rw [← hn] at HC0 HB
 have HN:=Lib.hid hn
 obtain ⟨a1,ha1⟩:∃ g,g=r.p.a.length:=⟨_,rfl⟩
 obtain ⟨b1,hb1⟩:∃ g,g=r.p.b.length:=⟨_,rfl⟩
 obtain ⟨lo,hlo⟩:∃ g,g=r.p.lo:=⟨_,rfl⟩
 obtain ⟨hi,hhi⟩:∃ g,g=r.p.hi:=⟨_,rfl⟩
 rw [← ha1,← hb1,← hlo,← hhi] at HR
 rw [← ha1,← hb1] at HKS
 have HPP:Hid (a1=r.p.a.length∧b1=r.p.b.length∧lo=r.p.lo∧hi=r.p.hi):=Lib.hid ⟨ha1,hb1,hlo,hhi⟩
 have hb9:lo≤hi∧hi≤n∧n≤16777216:=by
  have h2:=hin.mid;have h3:=hin.hi;have h4:=h.1.len
  rw [← hlo] at h2;rw [← hhi] at h2 h3;rw [← hn] at h3 h4
  omega
 have hcb9:n≤q.cb:=(HB.out w (Below.refl _ _)).cap
 have hcl9:q.cb≤9223372036854775807:=(HB.out w (Below.refl _ _)).lim
 have hlo8:lo < hi:=by have h2:=hin.mid;rw [← hlo] at h2;rw [← hhi] at h2;exact h2
 obtain ⟨G,rfl⟩:∃ G,hi=lo + G:=⟨hi - lo,by omega⟩
 simp only [Int.natCast_add] at HR
 have HCUT:Hid (∀ z,Below w.heap.size w z→Sl z (some ⟨q.gb,lo,none⟩) G (q.cb - lo) (cutS q.r.bytes lo G)):=Lib.hid fun z hz=>by
  have h4:=(HB.out z hz).cut (lo:=lo) (hi:=lo + G) (by omega) hb9.2.1 (by omega)
  rw [Nat.add_sub_cancel_left,Option.map_some,show (⟨q.gb,0,none⟩:Addr).add lo=⟨q.gb,lo,none⟩ from by simp [Addr.add];omega] at h4
  exact h4
 obtain ⟨cb,hcb⟩:∃ z,z=q.cb:=⟨_,rfl⟩
 have l1:(0:Int)≤(lo:Int):=by omega
 have l2:(lo:Int)≤(lo:Int) + (G:Int):=by omega
 have l3:(lo:Int) + (G:Int)≤(cb:Int):=by omega
 have l4:(0:Int)≤(lo:Int) + (G:Int):=by omega
 have l5:((lo:Int) + (G:Int)).toNat=lo + G:=by omega
 have l7:¬ cb=lo:=by omega
 rw [← hcb] at HC0 HCUT
 clear hcb
 clear hcb9 hcl9 hb9
 clear h hk hin ht hPA hg hm hn ha1 hb1 hlo hhi
 have i1:(k:Int) < (m:Int):=by omega
 have i2:(0:Int)≤(k:Int):=by omega
 go_enter Tryz.func85,Tryz.ntmps85
 go_upto_region 2 with (first
  | (refine wpList_load_cell rfl 133 (.tmp 16) rfl rfl (HC9.out _ HX.out.up) Tryz.isAgg133 ?_)
  | (refine wl_rowR rfl 137 (.tmp 19) rfl rfl (HR.out _ HX.out.up) part_row ?_)
  | (refine wl_alloc rfl rfl [.slice none 0 0,.slice none 0 0,.int .i64 0,.int .i64 0] (.inl (by kernel_rfl)) HX.out ?_;intro g5 x1 hz _;have HX1:Hid (OW w [boxO g5 [.slice none 0 0,.slice none 0 0,.int .i64 0,.int .i64 0]] x1):=Lib.hid hz;clear hz HX)
  | (refine wl_put rfl (.tmp 5) (.tmp 20) rfl HX1.out 0 rfl rfl [.slice r.A a1 r.c,.slice r.B b1 r.d,.int .i64 lo,.int .i64 ((lo:Int) + (G:Int))] rfl rfl (by kernel_rfl) (by simp [Value.oneCell']) ?_;intro x2 hz _;have HX2:Hid (OW w [boxO g5 [.slice r.A a1 r.c,.slice r.B b1 r.d,.int .i64 lo,.int .i64 ((lo:Int) + (G:Int))]] x2):=Lib.hid hz;clear hz HX1))
 cases ho:openE (cutS q.r.bytes lo G) with
 | mk o k =>
 cases o with
 | none =>
  have hk0:k ≠ 0:=by have:=openE_no (b:=cutS q.r.bytes lo G) (by rw [ho]);rw [ho] at this;exact this
  have hd0:(k != 0)=true:=bne_iff_ne.2 hk0
  have HO:=Lib.hid ho
  have HBN:Hid (blkR q.r r.p=none):=Lib.hid (by
   obtain ⟨_,_,h1,h2⟩:=HPP.out
   unfold blkR;rw [← h1,← h2,Nat.add_sub_cancel_left,HO.out])
  clear ho hk0
  refine lt_start [] (by kernel_rfl) ?_
  intro xd hd
  refine ⟨fun z=>OW w [boxO g5 [.slice r.A a1 r.c,.slice r.B b1 r.d,.int .i64 lo,.int .i64 ((lo:Int) + (G:Int))]] z,?_⟩
  have HS:=Lib.hid (HX2.out.later hd)
  refine lp2 0 rfl (fun _=>HS.out) ?_
  simp only [Act.put,ls]
  refine lp2 1 rfl (fun _=>HS.out) ?_
  simp only [Act.put,ls]
  refine lp2 2 rfl (fun _=>HS.out) ?_
  simp only [Act.put,ls]
  refine lq 3 [8,9,10,11,12,13,14] rfl (yi_cell rfl rfl rfl (fun w hS=>HC0.out _ (OW.up hS)) Tryz.isAgg34) HS.out ?_
  simp only [Act.put,ls]
  refine lp2 4 rfl (fun _=>HS.out) ?_
  simp only [Act.put,ls]
  refine lq 5 [8,9,10,11,12,13,14] rfl (yi_cell rfl rfl rfl (fun w hS=>OW.cell hS (i:=0) (j:=2) rfl rfl) Tryz.isAgg3) HS.out ?_
  simp only [Act.put,ls]
  refine lp2 6 rfl (fun _=>HS.out) ?_
  simp only [Act.put,ls]
  refine lq 7 [8,9,10,11,12,13,14] rfl (yi_cell rfl rfl rfl (fun w hS=>OW.cell hS (i:=0) (j:=3) rfl rfl) Tryz.isAgg3) HS.out ?_
  simp only [Act.put,ls]
  refine lp2 8 rfl (fun _=>HS.out) ?_
  simp only [Act.put,ls]
  refine lt_call 9 rfl (by kernel_rfl) rfl rfl ⟨_,Tryz.func149,by decide,by kernel_rfl⟩ [.slice (some ⟨q.gb,lo,none⟩) G (cb - lo)] rfl ?_
  refine (open_none HO.out _ G (cb - lo) _ (HCUT.out _ HS.out.up) (HTB.out _ HS.out.up)).mono ?_
  rintro e x3 ⟨rfl,hb⟩
  have HX3:=Lib.hid (HS.out.later hb)
  replace HS:=Lib.hid (HS.out.later hb)
  clear hb
  refine ⟨_,rfl,fun _=>HS.out,?_⟩
  simp only [Act.put,ls]
  refine lp2 10 rfl (fun _=>HS.out) ?_
  simp only [Act.put,ls]
  refine lp2 11 rfl (fun _=>HS.out) ?_
  simp only [Act.put,ls]
  refine lp2 12 rfl (fun _=>HS.out) ?_
  simp only [Act.put,ls]
  refine lp2 13 rfl (fun _=>HS.out) ?_
  simp only [Act.put,ls]
  refine lp2 14 rfl (fun _=>HS.out) ?_
  simp only [Act.put,ls]
  refine lt_done (by kernel_rfl) ?_
  clear HS
  go_wp2_with fail
  go_ret
  exact .inr ⟨HBN.out,rfl,HX3.out.up⟩
 | some L =>
  obtain rfl:k=0:=by have:=(openE_ok (b:=cutS q.r.bytes lo G) (L:=L) (by rw [ho])).2;rw [ho] at this;exact this
  have HO:=Lib.hid ho
  clear ho
  refine lt_start [] (by kernel_rfl) ?_
  intro xd hd
  refine ⟨fun z=>OW w [boxO g5 [.slice r.A a1 r.c,.slice r.B b1 r.d,.int .i64 lo,.int .i64 ((lo:Int) + (G:Int))]] z,?_⟩
  have HS:=Lib.hid (HX2.out.later hd)
  refine lp2 0 rfl (fun _=>HS.out) ?_
  simp only [Act.put,ls]
  refine lp2 1 rfl (fun _=>HS.out) ?_
  simp only [Act.put,ls]
  refine lp2 2 rfl (fun _=>HS.out) ?_
  simp only [Act.put,ls]
  refine lq 3 [8,9,10,11,12,13,14] rfl (yi_cell rfl rfl rfl (fun w hS=>HC0.out _ (OW.up hS)) Tryz.isAgg34) HS.out ?_
  simp only [Act.put,ls]
  refine lp2 4 rfl (fun _=>HS.out) ?_
  simp only [Act.put,ls]
  refine lq 5 [8,9,10,11,12,13,14] rfl (yi_cell rfl rfl rfl (fun w hS=>OW.cell hS (i:=0) (j:=2) rfl rfl) Tryz.isAgg3) HS.out ?_
  simp only [Act.put,ls]
  refine lp2 6 rfl (fun _=>HS.out) ?_
  simp only [Act.put,ls]
  refine lq 7 [8,9,10,11,12,13,14] rfl (yi_cell rfl rfl rfl (fun w hS=>OW.cell hS (i:=0) (j:=3) rfl rfl) Tryz.isAgg3) HS.out ?_
  simp only [Act.put,ls]
  refine lp2 8 rfl (fun _=>HS.out) ?_
  simp only [Act.put,ls]
  refine lt_call 9 rfl (by kernel_rfl) rfl rfl ⟨_,Tryz.func149,by decide,by kernel_rfl⟩ [.slice (some ⟨q.gb,lo,none⟩) G (cb - lo)] rfl ?_
  refine (open_bk HO.out _ G (cb - lo) _ (HCUT.out _ HS.out.up) (HTB.out _ HS.out.up)).mono ?_
  rintro e x3 ⟨gb,os,rfl,hbk,hos⟩
  have HBK:=Lib.hid hbk
  have HX3:=Lib.hid (HS.out.app hos)
  replace HS:=Lib.hid (HS.out.later hos.up)
  clear hbk hos
  refine ⟨_,rfl,fun _=>HS.out,?_⟩
  simp only [Act.put,ls]
  refine lp2 10 rfl (fun _=>HS.out) ?_
  simp only [Act.put,ls]
  refine lp2 11 rfl (fun _=>HS.out) ?_
  simp only [Act.put,ls]
  refine lp2 12 rfl (fun _=>HS.out) ?_
  simp only [Act.put,ls]
  refine lp2 13 rfl (fun _=>HS.out) ?_
  simp only [Act.put,ls]
  refine lp2 14 rfl (fun _=>HS.out) ?_
  simp only [Act.put,ls]
  refine lt_done (by kernel_rfl) ?_
  clear HS
  have HF:Hid (L ≠ []∧(∀ e,e ∈ L→checkE e=0)):=Lib.hid (by
   have h1:(openE (cutS q.r.bytes lo G)).1=some L:=by rw [HO.out]
   obtain ⟨h2,_⟩:=openE_ok h1
   obtain ⟨_,_,_,h3,_,h4⟩:=build_parts h2
   exact ⟨h3,h4⟩)
  have HBF:Hid (blkR q.r r.p=if firstK L=r.p.a∧lastK L=r.p.b then some L else none):=Lib.hid (by
   obtain ⟨_,_,h1,h2⟩:=HPP.out
   unfold blkR;rw [← h1,← h2,Nat.add_sub_cancel_left,HO.out])
  have HLE:Hid (∀ e,e ∈ L→e.row.length≤140737488355000∧e.qual.length≤140737488355000∧e.val.length≤140737488355000):=Lib.hid fun e he=>ok_lens (HF.out.2 e he)
  have hL1:1≤L.length∧L.length≤131073:=by
   refine ⟨List.length_pos_iff.2 HF.out.1,?_⟩
   have h1:(openE (cutS q.r.bytes lo G)).1=some L:=by rw [HO.out]
   obtain ⟨h2,_⟩:=openE_ok h1
   have:=blk_few h2
   have h3:=(openE_len h1)
   omega
  obtain ⟨M,hM⟩:∃ M,L.length=M + 1:=⟨L.length - 1,by omega⟩
  have HM:=Lib.hid hM
  have hM2:M≤131072:=by omega
  clear hM hL1
  have HBR:Hid (∀ z,Below x3.heap.size x3 z→BkR z (resB (cutS q.r.bytes lo G)) gb L):=Lib.hid fun z hz=>(HBK.out.reads (rest:=[boxO g5 [.slice r.A a1 r.c,.slice r.B b1 r.d,.int .i64 lo,.int .i64 ((lo:Int) + (G:Int))]]) (HX3.out.perm (List.perm_append_comm))).later hz
  have s1:IntKind.i64.wrap ((M:Int) + 1 - 1)=(M:Int):=by rw [Int.add_sub_cancel];exact i64_sum (by omega) (by omega)
  have s2:IntKind.i64.wrap (M:Int)=(M:Int):=i64_sum (by omega) (by omega)
  go_wp2_with fail
  refine lt_start [] (by kernel_rfl) ?_
  intro xd hd
  refine ⟨fun z=>Below x3.heap.size x3 z,?_⟩
  have HS:=Lib.hid (hd)
  refine lp2 0 rfl (fun _=>HS.out) ?_
  simp only [Act.put,ls]
  refine lq 1 [2,9] rfl (yi_cell rfl rfl rfl (fun w hS=>(HX3.out.later hS).cell (i:=0) (j:=0) rfl rfl) Tryz.isAgg34) HS.out ?_
  simp only [Act.put,ls]
  refine lp2 2 rfl (fun _=>HS.out) ?_
  simp only [Act.put,ls]
  refine lp2 3 rfl (fun _=>HS.out) ?_
  simp only [Act.put,ls]
  refine lp2 6 rfl (fun _=>HS.out) ?_
  simp only [Act.put,ls]
  refine lq 7 [8,9] rfl (yi_cell rfl rfl rfl (fun w hS=>(HX3.out.later hS).cell (i:=0) (j:=1) rfl rfl) Tryz.isAgg34) HS.out ?_
  simp only [Act.put,ls]
  refine lp2 10 rfl (fun _=>HS.out) ?_
  simp only [Act.put,ls]
  refine lt_call 4 rfl (by kernel_rfl) rfl rfl ⟨_,Tryz.func150,by decide,by kernel_rfl⟩ [.pointer (some ⟨gb,0,none⟩)] rfl ?_
  refine (len_any (HBR.out _ HS.out)).mono ?_
  rw [HM.out,show ((M + 1:Nat):Int)=(M:Int) + 1 from rfl]
  rintro e x4 ⟨rfl,hb⟩
  replace HS:=Lib.hid (HS.out.trans (hb.mono HS.out.size))
  clear hb
  refine ⟨_,rfl,fun _=>HS.out,?_⟩
  simp only [Act.put,ls]
  refine lp2 5 rfl (fun _=>HS.out) ?_
  simp only [Act.put,ls]
  refine lp2 8 rfl (fun _=>HS.out) ?_
  simp only [Act.put,ls]
  refine lp2 9 rfl (fun _=>HS.out) ?_
  simp only [Act.put,ls]
  refine lt_done (by kernel_rfl) ?_
  have HB9:=HS
  clear HS
  have HY0:Hid (OW x3 [] x4):=Lib.hid ⟨HB9.out,fun _ h=>(by cases h),List.Pairwise.nil⟩
  clear HB9 s1 s2
  go_wp2_with fail
  go_loopw [46] (fun iv wr=>∃ j:Nat,j≤2∧iv = .int .i64 j∧Hid (1≤j→firstK L=r.p.a)∧Hid (2≤j→lastK L=r.p.b)∧Hid (OW x3 [] wr)) (fun iv _=>2 - (intOf iv).toNat)
  case atStart=>exact ⟨0,by omega,rfl,Lib.hid fun h=>by omega,Lib.hid fun h=>by omega,HY0⟩
  case round =>
   clear HY0
   obtain ⟨j,hj,rfl,HJ1,HJ2,HY⟩:=hrel
   by_cases hlt:j < 2
   case pos =>
    have hd2:decide ((j:Int) < 2)=true:=decide_eq_true (by omega)
    obtain ⟨aj,KA,kn,kc,key,e,hix,haj,hkf,hsl⟩:∃ (aj:Nat) (KA:Option Addr) (kn kc:Nat) (key:List UInt8) (e:Ent),(∀ w,(Instr.index 243 (.agg #[.int .i64 0,.slice r.A a1 r.c,.int .i64 (M:Int),.slice r.B b1 r.d]) (.int .i64 (j:Int))).run Tryz.prog w = .ok (.agg #[.int .i64 (aj:Int),.slice KA kn kc]) w)∧L[aj]?=some e∧((j=0→firstK L=keyE e∧key=r.p.a)∧(j=1→lastK L=keyE e∧key=r.p.b))∧(∀ z,Below w.heap.size w z→Sl z KA kn kc key):=by
     obtain ⟨b,hb1,hb2,hb3,a,ha1,ha2,ha3⟩:=getLast_of HF.out.1
     rw [HM.out,Nat.add_sub_cancel] at hb1
     match j,hlt with
     | 0,_=>exact ⟨0,r.A,a1,r.c,r.p.a,a,fun w=>key20 r.A r.B a1 r.c b1 r.d M w,ha1,⟨fun _=>⟨ha3,rfl⟩,fun h=>by omega⟩,fun z hz=>(HKS.out z hz).1⟩
     | 1,_=>exact ⟨M,r.B,b1,r.d,r.p.b,b,fun w=>key21 r.A r.B a1 r.c b1 r.d M w,hb1,⟨fun h=>by omega,fun _=>⟨hb3,rfl⟩⟩,fun z hz=>(HKS.out z hz).2⟩
    have HAJ:=Lib.hid haj
    have HKF:=Lib.hid hkf
    have HSL:=Lib.hid hsl
    have HCE:Hid (checkE e=0):=Lib.hid (HF.out.2 e (List.mem_of_getElem? haj))
    have HEL:=Lib.hid (HLE.out e (List.mem_of_getElem? haj))
    clear haj hkf hsl
    go_upto_region 8 with (first
     | (refine wl_alloc rfl rfl [.int .i64 0,.slice none 0 0] (.inl (by kernel_rfl)) HY.out ?_;intro g9 y1 hz _;have HY1:Hid (OW x3 [boxO g9 [.int .i64 0,.slice none 0 0]] y1):=Lib.hid hz;clear hz HY)
     | (refine wl_put rfl (.tmp 9) (.tmp 48) rfl HY1.out 0 rfl rfl [.int .i64 (aj:Int),.slice KA kn kc] rfl rfl (by kernel_rfl) (by simp [Value.oneCell']) ?_;intro y2 hz _;have HY2:Hid (OW x3 [boxO g9 [.int .i64 (aj:Int),.slice KA kn kc]] y2):=Lib.hid hz;clear hz HY1))
    clear hix
    go_upto_region 9 with (first
     | (refine wpList_load_cell rfl 3 (.tmp 51) rfl rfl (HY2.out.cell (i:=0) (j:=0) rfl rfl) Tryz.isAgg3 ?_)
     | (go_at_call 151;go_must (refine (at_in (HBR.out _ HY2.out.up) HLE.out HAJ.out).mono ?_);rintro rr y3 hp;obtain ⟨A1,B1,D1,rfl,ca,cb,cd,hz⟩:=hp.own;have HCA:=Lib.hid (And.intro ca (And.intro cb cd));have HY3:Hid (OW x3 [boxO g9 [.int .i64 (aj:Int),.slice KA kn kc],clipO A1 e.row,clipO B1 e.qual,clipO D1 e.val] y3):=Lib.hid (HY2.out.app hz);clear ca cb cd hz hp)
     | (refine wl_alloc rfl rfl [.slice none 0 0,.int .i64 0,.slice none 0 0,.int .i64 0,.int .i64 0,.int .i64 0,.slice none 0 0] (.inl (by kernel_rfl)) HY3.out ?_;intro g10 y4 hz _;have HY4:Hid (OW x3 [boxO g9 [.int .i64 (aj:Int),.slice KA kn kc],clipO A1 e.row,clipO B1 e.qual,clipO D1 e.val,boxO g10 [.slice none 0 0,.int .i64 0,.slice none 0 0,.int .i64 0,.int .i64 0,.int .i64 0,.slice none 0 0]] y4):=Lib.hid hz;clear hz HY3)
     | (refine wl_put rfl (.tmp 10) (.tmp 54) rfl HY4.out 4 rfl rfl [.slice A1 e.row.length e.row.length,.int .i64 e.fam,.slice B1 e.qual.length e.qual.length,.int .i64 e.ts,.int .i64 e.seq,.int .i64 e.kind,.slice D1 e.val.length e.val.length] rfl rfl (by kernel_rfl) (by simp [Value.oneCell']) ?_;intro y5 hz _;have HY5:Hid (OW x3 [boxO g9 [.int .i64 (aj:Int),.slice KA kn kc],clipO A1 e.row,clipO B1 e.qual,clipO D1 e.val,boxO g10 [.slice A1 e.row.length e.row.length,.int .i64 e.fam,.slice B1 e.qual.length e.qual.length,.int .i64 e.ts,.int .i64 e.seq,.int .i64 e.kind,.slice D1 e.val.length e.val.length]] y5):=Lib.hid hz;clear hz HY4))
    have HEN:Hid (∀ z,OW x3 [boxO g9 [.int .i64 (aj:Int),.slice KA kn kc],clipO A1 e.row,clipO B1 e.qual,clipO D1 e.val,boxO g10 [.slice A1 e.row.length e.row.length,.int .i64 e.fam,.slice B1 e.qual.length e.qual.length,.int .i64 e.ts,.int .i64 e.seq,.int .i64 e.kind,.slice D1 e.val.length e.val.length]] z→En z A1 e.row.length e.row.length B1 e.qual.length e.qual.length D1 e.val.length e.val.length e):=Lib.hid fun z hz=>⟨hz.clipSl HCA.out.1 (i:=1) rfl rfl (by have:=HEL.out;omega),hz.clipSl HCA.out.2.1 (i:=2) rfl rfl (by have:=HEL.out;omega),hz.clipSl HCA.out.2.2 (i:=3) rfl rfl (by have:=HEL.out;omega)⟩
    obtain ⟨ke,hke⟩:∃ z,z=keyE e:=⟨_,rfl⟩
    obtain ⟨kl,hkl⟩:∃ z,z=ke.length:=⟨_,rfl⟩
    have HKE:=Lib.hid hke
    have HKL:=Lib.hid hkl
    have HK0:Hid (KeyE e=(ke,0)):=Lib.hid (by rw [hke];exact keyE_ok HCE.out)
    clear hke hkl
    go_upto_region 10 with (first
     | (refine wpList_load_row7 rfl 60 (.tmp 10) rfl rfl (HY5.out.range (i:=4) rfl) ent_row5 ?_)
     | (go_at_call 111;go_must (refine (key_any e A1 _ _ B1 _ _ D1 _ _ _ (HEN.out _ HY5.out)).mono ?_);rw [HK0.out];rintro rr y6 hp;obtain ⟨KA6,c6,rfl,hs6,ho6,hb6⟩:=hp.at_ HKL.out.symm rfl;have HY6:=Lib.hid (HY5.out.app (OW.byt1 hb6 ho6));have HS6:Hid (∀ z,Below y6.heap.size y6 z→Sl z KA6 kl c6 ke):=Lib.hid fun z hz=>hs6.later hz;clear hp hs6 ho6 hb6 HY5))
    obtain ⟨bo,hbo⟩:∃ z,z=(ke == key):=⟨_,rfl⟩
    have HBO:=Lib.hid hbo.symm
    clear hbo
    cases bo with
    | false =>
     have HNO:Hid (blkR q.r r.p=none):=Lib.hid (by
      rw [HBF.out,if_neg]
      have hne:ke ≠ key:=by have:=HBO.out;simpa using this
      rintro ⟨h1,h2⟩
      have hk2:j=0∨j=1:=by omega
      rcases hk2 with rfl | rfl
      ·obtain ⟨g1,g2⟩:=HKF.out.1 rfl
       exact hne (by rw [g2,← h1,g1,HKE.out])
      ·obtain ⟨g1,g2⟩:=HKF.out.2 rfl
       exact hne (by rw [g2,← h2,g1,HKE.out]))
     go_wp2_with (first
      | (refine wpList_load_cell rfl 34 (.tmp 65) rfl rfl (HY6.out.cell (i:=0) (j:=1) rfl rfl) Tryz.isAgg34 ?_)
      | (go_at_call 87;go_must (refine (equal_any ke key _ _ _ _ _ _ _ (HS6.out _ (Below.refl _ _)).rb (HSL.out _ (HX3.out.later HY6.out.up).up).rb).mono ?_);rw [HBO.out];rintro rr y7 ⟨rfl,rfl⟩))
     go_ret
     exact .inr ⟨HNO.out,rfl,(HX3.out.later HY6.out.up).up⟩
    | true =>
     have HKQ:Hid (ke=key):=Lib.hid (by have:=HBO.out;simpa using this)
     go_wp2_with (first
      | (refine wpList_load_cell rfl 34 (.tmp 65) rfl rfl (HY6.out.cell (i:=0) (j:=1) rfl rfl) Tryz.isAgg34 ?_)
      | (go_at_call 87;go_must (refine (equal_any ke key _ _ _ _ _ _ _ (HS6.out _ (Below.refl _ _)).rb (HSL.out _ (HX3.out.later HY6.out.up).up).rb).mono ?_);rw [HBO.out];rintro rr y7 ⟨rfl,rfl⟩))
     go_roundw
     case rel =>
      refine ⟨j + 1,by omega,by go_num,Lib.hid fun h=>?_,Lib.hid fun h=>?_,Lib.hid (HY6.out.sub (List.nil_sublist _))⟩
      ·by_cases h0:j=0
       ·obtain ⟨g1,g2⟩:=HKF.out.1 h0
        rw [g1,← HKE.out,HKQ.out,g2]
       ·exact HJ1.out (by omega)
      ·obtain ⟨g1,g2⟩:=HKF.out.2 (by omega)
       rw [g1,← HKE.out,HKQ.out,g2]
     case measure=>simp [intOf];omega
   obtain rfl:j=2:=by omega
   have HYES:Hid (blkR q.r r.p=some L):=Lib.hid (by rw [HBF.out,if_pos ⟨HJ1.out (by omega),HJ2.out (by omega)⟩])
   have hd2:decide ((2:Int) < 2)=false:=rfl
   go_wp2_with fail
   go_ret
   refine .inl ⟨L,gb,os,HYES.out,rfl,?_,((HX3.out.later HY.out.up).right)⟩
   obtain ⟨_,_,h1,h2⟩:=HPP.out
   rw [← h1,← h2,Nat.add_sub_cancel_left]
   exact HBK.out
theorem pcin_len {a z:Nat} {p:PcR} (h:PcIn a z p):p.a.length≤1048∧p.b.length≤1048:=by
 obtain ⟨k1,k2,_⟩:=ParseKey_is h.ka
 obtain ⟨k3,k4,_⟩:=ParseKey_is h.kb
 have h1:=keyE_len k1
 have h2:=keyE_len k3
 rw [k2] at h1
 rw [k4] at h2
 exact ⟨h1,h2⟩
structure RunF (q:RunRec):Prop where
  ok:q.Ok
  ins:∀ p,p ∈ q.r.ps→PcIn 8 q.r.bytes.length p
  asc:PsAsc q.r.ps
  few:q.r.ps.length≤16777216
theorem RunF.of {q:RunRec} {b:List UInt8} (h:q.Ok) (ho:openR7 b=(some q.r,0)):RunF q:=by
 obtain ⟨h1,_,h3⟩:=openR7_in ho
 exact ⟨h,by rw [h1];exact h3,(openR7_asc ho).1,(openR7_asc ho).2⟩
theorem RunF.len {q:RunRec} (h:RunF q):q.rs.length=q.r.ps.length:=by rw [← h.ok.ps,List.length_map]
theorem RunF.at_ {q:RunRec} (h:RunF q) {k:Nat} {r:PRec} (hk:q.rs[k]?=some r):q.r.ps[k]?=some r.p:=by rw [← h.ok.ps,List.getElem?_map,hk];rfl
theorem RunF.pin {q:RunRec} (h:RunF q) {k:Nat} {r:PRec} (hk:q.rs[k]?=some r):PcIn 8 q.r.bytes.length r.p:=h.ins _ (List.mem_of_getElem? (h.at_ hk))
theorem RunF.ends {q:RunRec} (h:RunF q):q.r.ps.head?=some q.f1.p∧q.r.ps.getLast?=some q.fn.p:=by
 constructor
 ·rw [List.head?_eq_getElem?];exact h.at_ h.ok.first
 ·rw [List.getLast?_eq_getElem?,← h.len];exact h.at_ h.ok.last
theorem RunF.may {q:RunRec} (h:RunF q) (row:List UInt8):mayR q.r row=if cmpB row (keyP q.f1.p.a).row < 0∨0 < cmpB row (keyP q.fn.p.b).row then false else if q.r.filt=[] then true else hasB q.r.filt row || !isF q.r.filt:=by
 unfold mayR
 rw [h.ends.1,h.ends.2]
theorem RunAt.of {q:RunRec} {w x:World} {os:List Ob} (hq:q.Ok) (h:OW w os x) (hs:q.obs.Sublist os):RunAt q x:=⟨hq,w,h.sub hs⟩
theorem RunAt.filtS {q:RunRec} {x:World} (h:RunAt q x):Sl x (some ⟨q.gb,q.ff,none⟩) q.r.filt.length (q.cb - q.ff) q.r.filt:=by
 obtain ⟨h1,h2,h3⟩:=h.1.filt
 have hb:=h.bytes
 have hc:=hb.cut (lo:=q.ff) (hi:=q.ff + q.r.filt.length) (by omega) h2 (by have:=hb.cap;omega)
 rw [Nat.add_sub_cancel_left,← h1] at hc
 rw [Option.map_some,show (⟨q.gb,0,none⟩:Addr).add q.ff=⟨q.gb,q.ff,none⟩ from by simp [Addr.add];omega] at hc
 exact hc
set_option maxRecDepth 1000000 in
set_option maxHeartbeats 4000000 in
theorem may_any (q:RunRec) (w:World) (h:RunAt q w) (hf:RunF q) (row:List UInt8) (A:Option Addr) (n c:Nat) (hs:Sl w A n c row) :
  Calls Tryz.prog 37 #[.pointer (some ⟨q.g,0,none⟩),.slice A n c] w fun e z=>e = .returned (.bool (mayR q.r row))∧Below w.heap.size w z:=by
 have HC7:Hid (∀ z,Below w.heap.size w z→z.cell? ⟨q.g,7,none⟩=some (.slice q.f1.A q.f1.p.a.length q.f1.c)):=Lib.hid fun z hz=>(h.later hz).cell rfl
 have HC8:Hid (∀ z,Below w.heap.size w z→z.cell? ⟨q.g,8,none⟩=some (.slice q.fn.B q.fn.p.b.length q.fn.d)):=Lib.hid fun z hz=>(h.later hz).cell rfl
 have HC10:Hid (∀ z,Below w.heap.size w z→z.cell? ⟨q.g,10,none⟩=some (.slice (some ⟨q.gb,q.ff,none⟩) q.r.filt.length (q.cb - q.ff))):=Lib.hid fun z hz=>(h.later hz).cell rfl
 have HS1:Hid (∀ z,Below w.heap.size w z→Sl z q.f1.A q.f1.p.a.length q.f1.c q.f1.p.a):=Lib.hid fun z hz=>(h.later hz).firstS
 have HS2:Hid (∀ z,Below w.heap.size w z→Sl z q.fn.B q.fn.p.b.length q.fn.d q.fn.p.b):=Lib.hid fun z hz=>(h.later hz).lastS
 have HSF:Hid (∀ z,Below w.heap.size w z→Sl z (some ⟨q.gb,q.ff,none⟩) q.r.filt.length (q.cb - q.ff) q.r.filt):=Lib.hid fun z hz=>(h.later hz).filtS
 have HSR:Hid (∀ z,Below w.heap.size w z→Sl z A n c row):=Lib.hid fun z hz=>hs.later hz
 have HK:Hid (q.f1.p.a.length≤1048∧q.fn.p.b.length≤1048):=Lib.hid ⟨(pcin_len (hf.pin hf.ok.first)).1,(pcin_len (hf.pin hf.ok.last)).2⟩
 have HM:=Lib.hid (hf.may row)
 have HNL:=Lib.hid hs.le
 have HFL:Hid (q.r.filt.length≤9223372036854775807):=Lib.hid h.filtS.le
 obtain ⟨mr,hmr⟩:∃ z,z=mayR q.r row:=⟨_,rfl⟩
 rw [← hmr] at HM ⊢
 obtain ⟨ka,hka⟩:∃ z,z=q.f1.p.a:=⟨_,rfl⟩
 obtain ⟨kb,hkb⟩:∃ z,z=q.fn.p.b:=⟨_,rfl⟩
 obtain ⟨fl,hfl⟩:∃ z,z=q.r.filt:=⟨_,rfl⟩
 obtain ⟨g,hg⟩:∃ z,z=q.g:=⟨_,rfl⟩
 rw [← hka] at HC7 HS1 HK HM
 rw [← hkb] at HC8 HS2 HK HM
 rw [← hfl] at HC10 HSF HM HFL
 rw [← hg] at HC7 HC8 HC10 ⊢
 obtain ⟨an,han⟩:∃ z,z=ka.length:=⟨_,rfl⟩
 obtain ⟨bn,hbn⟩:∃ z,z=kb.length:=⟨_,rfl⟩
 obtain ⟨fn,hfn⟩:∃ z,z=fl.length:=⟨_,rfl⟩
 rw [← han] at HC7 HS1 HK
 rw [← hbn] at HC8 HS2 HK
 rw [← hfn] at HC10 HSF HFL
 have HFN:=Lib.hid hfn
 clear h hf hs hmr hka hkb hfl hg han hbn hfn
 obtain ⟨E1,hE1⟩:∃ z,z=keyP ka:=⟨_,rfl⟩
 obtain ⟨E2,hE2⟩:∃ z,z=keyP kb:=⟨_,rfl⟩
 obtain ⟨z1,hz1⟩:∃ z,z=(ParseKeyE ka).2:=⟨_,rfl⟩
 obtain ⟨z2,hz2⟩:∃ z,z=(ParseKeyE kb).2:=⟨_,rfl⟩
 rw [← hE1,← hE2] at HM
 have HE1:Hid ((ParseKeyE ka).1=E1):=Lib.hid hE1.symm
 have HE2:Hid ((ParseKeyE kb).1=E2):=Lib.hid hE2.symm
 have HZ1:=Lib.hid hz1.symm
 have HZ2:=Lib.hid hz2.symm
 clear hE1 hE2 hz1 hz2
 have HX:=Lib.hid (OW.nil w)
 go_enter Tryz.func37,Tryz.ntmps37
 go_upto_region 2 with (first
  | (refine wpList_load_cell rfl 34 (.tmp 15) rfl rfl (HC7.out _ HX.out.up) Tryz.isAgg34 ?_)
  | (go_at_call 92;go_must (refine (parsekey_any ka _ _ _ _ (HS1.out _ HX.out.up) (by have:=HK.out;omega)).mono ?_);rw [HE1.out,HZ1.out];rintro e x1 ⟨A1,c1,B1,d1,D1,u1,rfl,hr,hb⟩;have HX1:=Lib.hid (HX.out.app (OW.rows1 hb hr));clear hr hb HX)
  | (refine wl_alloc rfl rfl [.slice none 0 0,.int .i64 0,.slice none 0 0,.int .i64 0,.int .i64 0,.int .i64 0,.slice none 0 0] (.inl (by kernel_rfl)) HX1.out ?_;intro g2 x2 hz _;have HX2:Hid (OW w [bytO 5 (A1,c1,E1.row),bytO 5 (B1,d1,E1.qual),bytO 5 (D1,u1,E1.val),boxO g2 [.slice none 0 0,.int .i64 0,.slice none 0 0,.int .i64 0,.int .i64 0,.int .i64 0,.slice none 0 0]] x2):=Lib.hid hz;clear hz HX1)
  | (refine wl_put rfl (.tmp 5) (.tmp 18) rfl HX2.out 3 rfl rfl [.slice A1 E1.row.length c1,.int .i64 E1.fam,.slice B1 E1.qual.length d1,.int .i64 E1.ts,.int .i64 E1.seq,.int .i64 E1.kind,.slice D1 E1.val.length u1] rfl rfl (by kernel_rfl) (by simp [Value.oneCell']) ?_;intro x3 hz _;have HX3:Hid (OW w [bytO 5 (A1,c1,E1.row),boxO g2 [.slice A1 E1.row.length c1,.int .i64 E1.fam,.slice B1 E1.qual.length d1,.int .i64 E1.ts,.int .i64 E1.seq,.int .i64 E1.kind,.slice D1 E1.val.length u1]] x3):=Lib.hid (OW.erase (OW.erase hz 1) 1);clear hz HX2))
 go_upto_region 3 with (first
  | (refine wpList_load_cell rfl 34 (.tmp 24) rfl rfl (HC8.out _ HX3.out.up) Tryz.isAgg34 ?_)
  | (go_at_call 92;go_must (refine (parsekey_any kb _ _ _ _ (HS2.out _ HX3.out.up) (by have:=HK.out;omega)).mono ?_);rw [HE2.out,HZ2.out];rintro e x4 ⟨A2,c2,B2,d2,D2,u2,rfl,hr,hb⟩;have HX4:=Lib.hid (HX3.out.app (OW.rows1 hb hr));clear hr hb HX3)
  | (refine wl_alloc rfl rfl [.slice none 0 0,.int .i64 0,.slice none 0 0,.int .i64 0,.int .i64 0,.int .i64 0,.slice none 0 0] (.inl (by kernel_rfl)) HX4.out ?_;intro g5 x5 hz _;have HX5:=Lib.hid hz;clear hz HX4)
  | (refine wl_put rfl (.tmp 7) (.tmp 27) rfl HX5.out 5 rfl rfl [.slice A2 E2.row.length c2,.int .i64 E2.fam,.slice B2 E2.qual.length d2,.int .i64 E2.ts,.int .i64 E2.seq,.int .i64 E2.kind,.slice D2 E2.val.length u2] rfl rfl (by kernel_rfl) (by simp [Value.oneCell']) ?_;intro x6 hz _;have HX6:Hid (OW w [bytO 5 (A1,c1,E1.row),boxO g2 [.slice A1 E1.row.length c1,.int .i64 E1.fam,.slice B1 E1.qual.length d1,.int .i64 E1.ts,.int .i64 E1.seq,.int .i64 E1.kind,.slice D1 E1.val.length u1],bytO 5 (A2,c2,E2.row),boxO g5 [.slice A2 E2.row.length c2,.int .i64 E2.fam,.slice B2 E2.qual.length d2,.int .i64 E2.ts,.int .i64 E2.seq,.int .i64 E2.kind,.slice D2 E2.val.length u2]] x6):=Lib.hid (OW.erase (OW.erase hz 3) 3);clear hz HX5))
 obtain ⟨v1,hv1⟩:∃ z,z=cmpB row E1.row:=⟨_,rfl⟩
 obtain ⟨v2,hv2⟩:∃ z,z=cmpB row E2.row:=⟨_,rfl⟩
 rw [← hv1,← hv2] at HM
 have HV1:=Lib.hid hv1.symm
 have HV2:=Lib.hid hv2.symm
 have HB6:=Lib.hid HX6.out.up
 have tok:True:=trivial
 clear hv1 hv2
 by_cases g1:v1 < 0
 case pos =>
  have m1:decide (v1 < 0)=true:=decide_eq_true g1
  have HMR:Hid (mr=false):=Lib.hid (by rw [HM.out,if_pos (.inl g1)])
  go_wp2_with (first
   | (refine wpList_load_cell rfl 34 (.tmp 30) rfl rfl (HX6.out.cell (i:=1) (j:=0) rfl rfl) Tryz.isAgg34 ?_)
   | (go_at_call 94;go_must (refine (bcmp_any row E1.row _ _ _ _ _ _ _ (HSR.out _ HX6.out.up).rb (HX6.out.sl (i:=0) rfl rfl).rb).mono ?_);rw [HV1.out];rintro e y ⟨rfl,rfl⟩))
  go_ret
  exact ⟨by rw [HMR.out];rfl,HX6.out.up⟩
 have m1:decide (v1 < 0)=false:=decide_eq_false g1
 by_cases g2:0 < v2
 case pos =>
  have m2:decide (v2 > 0)=true:=decide_eq_true g2
  have m3:decide (0 < v2)=true:=decide_eq_true g2
  have HMR:Hid (mr=false):=Lib.hid (by rw [HM.out,if_pos (.inr g2)])
  go_wp2_with (first
   | (refine wpList_load_cell rfl 34 (.tmp 30) rfl rfl (HX6.out.cell (i:=1) (j:=0) rfl rfl) Tryz.isAgg34 ?_)
   | (go_at_call 94;have _t:=tok;clear tok;go_must (refine (bcmp_any row E1.row _ _ _ _ _ _ _ (HSR.out _ HX6.out.up).rb (HX6.out.sl (i:=0) rfl rfl).rb).mono ?_);rw [HV1.out];rintro e y ⟨rfl,rfl⟩)
   | (refine wpList_load_cell rfl 34 (.tmp 36) rfl rfl (HX6.out.cell (i:=3) (j:=0) rfl rfl) Tryz.isAgg34 ?_)
   | (go_at_call 94;go_must (refine (bcmp_any row E2.row _ _ _ _ _ _ _ (HSR.out _ HX6.out.up).rb (HX6.out.sl (i:=2) rfl rfl).rb).mono ?_);rw [HV2.out];rintro e y ⟨rfl,rfl⟩))
  go_ret
  exact ⟨by rw [HMR.out];rfl,HX6.out.up⟩
 have m2:decide (v2 > 0)=false:=decide_eq_false g2
 have m3:decide (0 < v2)=false:=decide_eq_false g2
 have HM2:Hid (mr=if fl=[] then true else hasB fl row || !isF fl):=Lib.hid (by rw [HM.out,if_neg (by omega)])
 go_upto_region 5 with (first
  | (refine wpList_load_cell rfl 34 (.tmp 30) rfl rfl (HX6.out.cell (i:=1) (j:=0) rfl rfl) Tryz.isAgg34 ?_)
  | (go_at_call 94;have _t:=tok;clear tok;go_must (refine (bcmp_any row E1.row _ _ _ _ _ _ _ (HSR.out _ HX6.out.up).rb (HX6.out.sl (i:=0) rfl rfl).rb).mono ?_);rw [HV1.out];rintro e y ⟨rfl,rfl⟩)
  | (refine wpList_load_cell rfl 34 (.tmp 36) rfl rfl (HX6.out.cell (i:=3) (j:=0) rfl rfl) Tryz.isAgg34 ?_)
  | (go_at_call 94;go_must (refine (bcmp_any row E2.row _ _ _ _ _ _ _ (HSR.out _ HX6.out.up).rb (HX6.out.sl (i:=2) rfl rfl).rb).mono ?_);rw [HV2.out];rintro e y ⟨rfl,rfl⟩))
 by_cases g3:fn=0
 case pos =>
  have m4:((fn:Int) == 0)=true:=by rw [g3];rfl
  have m5:(fn == 0)=true:=by rw [g3];rfl
  have HMR:Hid (mr=true):=Lib.hid (by rw [HM2.out,if_pos (List.eq_nil_of_length_eq_zero (by rw [← HFN.out];exact g3))])
  clear g3
  go_wp2_with (refine wpList_load_cell rfl 34 (.tmp 43) rfl rfl (HC10.out _ HX6.out.up) Tryz.isAgg34 ?_)
  go_ret
  exact ⟨by rw [HMR.out];rfl,HX6.out.up⟩
 have m4:((fn:Int) == 0)=false:=beq_eq_false_iff_ne.2 (by omega)
 have m5:(fn == 0)=false:=beq_eq_false_iff_ne.2 g3
 have HMR:Hid (mr=(hasB fl row || !isF fl)):=Lib.hid (by rw [HM2.out,if_neg (fun h=>g3 (by rw [HFN.out,h];rfl))])
 obtain ⟨hh,hhh⟩:∃ z,z=hasB fl row:=⟨_,rfl⟩
 rw [← hhh] at HMR
 have HHH:=Lib.hid hhh.symm
 clear g3 hhh
 have HCK:Hid (bf_checkE fl=if isF fl=true then 0 else 62):=Lib.hid rfl
 cases hi:isF fl with
 | true =>
  have HCK2:Hid (bf_checkE fl=0):=Lib.hid (by rw [HCK.out,if_pos hi])
  have HMR2:Hid (mr=hh):=Lib.hid (by rw [HMR.out,hi];cases hh <;> rfl)
  clear hi
  cases hh with
  | true =>
   go_wp2_with (first
    | (refine wpList_load_cell rfl 34 (.tmp 43) rfl rfl (HC10.out _ HX6.out.up) Tryz.isAgg34 ?_)
    | (refine wpList_load_cell rfl 34 (.tmp 50) rfl rfl (HC10.out _ HX6.out.up) Tryz.isAgg34 ?_)
    | (go_at_call 95;go_must (refine (has_any fl row _ _ fn _ n c _ HFL.out (HSF.out _ HX6.out.up).rb HNL.out (HSR.out _ HX6.out.up).rb).mono ?_);rw [HHH.out,HCK2.out];rintro e y ⟨rfl,hb⟩;have HX7:=Lib.hid (HX6.out.later hb);clear hb))
   go_ret
   exact ⟨by rw [HMR2.out];rfl,HX7.out.up⟩
  | false =>
   go_wp2_with (first
    | (refine wpList_load_cell rfl 34 (.tmp 43) rfl rfl (HC10.out _ HX6.out.up) Tryz.isAgg34 ?_)
    | (refine wpList_load_cell rfl 34 (.tmp 50) rfl rfl (HC10.out _ HX6.out.up) Tryz.isAgg34 ?_)
    | (go_at_call 95;go_must (refine (has_any fl row _ _ fn _ n c _ HFL.out (HSF.out _ HX6.out.up).rb HNL.out (HSR.out _ HX6.out.up).rb).mono ?_);rw [HHH.out,HCK2.out];rintro e y ⟨rfl,hb⟩;have HX7:=Lib.hid (HX6.out.later hb);clear hb))
   go_ret
   exact ⟨by rw [HMR2.out];rfl,HX7.out.up⟩
 | false =>
  have HCK2:Hid (bf_checkE fl=62):=Lib.hid (by rw [HCK.out,hi];rfl)
  have HMR2:Hid (mr=true):=Lib.hid (by rw [HMR.out,hi];cases hh <;> rfl)
  clear hi
  cases hh with
  | true =>
   go_wp2_with (first
    | (refine wpList_load_cell rfl 34 (.tmp 43) rfl rfl (HC10.out _ HX6.out.up) Tryz.isAgg34 ?_)
    | (refine wpList_load_cell rfl 34 (.tmp 50) rfl rfl (HC10.out _ HX6.out.up) Tryz.isAgg34 ?_)
    | (go_at_call 95;go_must (refine (has_any fl row _ _ fn _ n c _ HFL.out (HSF.out _ HX6.out.up).rb HNL.out (HSR.out _ HX6.out.up).rb).mono ?_);rw [HHH.out,HCK2.out];rintro e y ⟨rfl,hb⟩;have HX7:=Lib.hid (HX6.out.later hb);clear hb))
   go_ret
   exact ⟨by rw [HMR2.out];rfl,HX7.out.up⟩
  | false =>
   go_wp2_with (first
    | (refine wpList_load_cell rfl 34 (.tmp 43) rfl rfl (HC10.out _ HX6.out.up) Tryz.isAgg34 ?_)
    | (refine wpList_load_cell rfl 34 (.tmp 50) rfl rfl (HC10.out _ HX6.out.up) Tryz.isAgg34 ?_)
    | (go_at_call 95;go_must (refine (has_any fl row _ _ fn _ n c _ HFL.out (HSF.out _ HX6.out.up).rb HNL.out (HSR.out _ HX6.out.up).rb).mono ?_);rw [HHH.out,HCK2.out];rintro e y ⟨rfl,hb⟩;have HX7:=Lib.hid (HX6.out.later hb);clear hb))
   go_ret
   exact ⟨by rw [HMR2.out];rfl,HX7.out.up⟩
theorem kv_one {w z:World} {r:ER} (h:r.En w) (hb:Below w.heap.size w z):KV z w.heap.size [.slice r.A r.e.row.length r.c] [r.e.row] :=
 ⟨rfl,fun i k hk=>by
  cases i with
  | zero=>cases hk;exact ⟨r.A,r.c,rfl,h.row.cap,h.row.lim,h.row.nil,(h.row.rb.below hb)⟩
  | succ i=>cases hk⟩
theorem kv_sl {z:World} {A:Option Addr} {n c:Nat} {l:List UInt8} (h:Sl z A n c l):KV z z.heap.size [.slice A n c] [l] :=
 ⟨rfl,fun i k hk=>by
  cases i with
  | zero=>cases hk;exact ⟨A,c,by rw [h.len];rfl,by rw [h.len];exact h.cap,h.lim,h.nil,by rw [h.len];exact h.rb⟩
  | succ i=>cases hk⟩
theorem rows_add {L:List Ent} {i:Nat} {e:Ent} (h:L[i]?=some e) (hn:(rowsE (L.take i)).getLast? ≠ some e.row):rowsE (L.take (i + 1))=rowsE (L.take i) ++ [e.row]:=by
 rw [take_snoc h,rowsE_snoc];unfold rowStep;rw [if_neg hn]
theorem rows_same {L:List Ent} {i:Nat} {e:Ent} (h:L[i]?=some e) (hn:(rowsE (L.take i)).getLast?=some e.row):rowsE (L.take (i + 1))=rowsE (L.take i):=by
 rw [take_snoc h,rowsE_snoc];unfold rowStep;rw [if_pos hn]
def RowsP (w:World) (ks:List (List UInt8)) (e:Ending) (z:World):Prop:=∃ A n c,e = .returned (.slice A n c)∧n≤c∧n=ks.length∧RBs z z.heap.size A n ks∧Below w.heap.size w z
set_option maxRecDepth 1000000 in
set_option maxHeartbeats 4000000 in
theorem rows_any (L:List Ent) (A:Option Addr) (n c:Nat) (w:World) (hes:Ens w A n L) (hn:n≤1000000) :
  Calls Tryz.prog 115 #[.slice A n c] w (RowsP w (rowsE L)):=by
 have HL:Hid (L.length=n):=Lib.hid hes.len
 have HES:Hid (∀ z,Below w.heap.size w z→Ens z A n L):=Lib.hid fun z hz=>hes.later hz
 have HX1:Hid (OW w [rowO 34 1 (.slice none 0 0) 0 []] w):=Lib.hid ((OW.nil w).nilRow 34 1)
 have HV:Hid (KV w w.heap.size [] (rowsE (L.take 0))):=Lib.hid KV.nil
 clear hes
 go_enter Tryz.func115,Tryz.ntmps115
 go_wp2_with fail
 go_loopw [3,8] (fun bv av wr=>∃ (i:Nat) (A':Option Addr) (m c':Nat) (vs:List Value),i≤n∧m≤i∧av = .int .i64 i∧bv = .slice A' m c'∧Hid (KV w w.heap.size vs (rowsE (L.take i)))∧Hid (OW w [rowO 34 1 (.slice A' m c') m vs] wr)) (fun _ av _=>n - (intOf av).toNat)
 case atStart=>exact ⟨0,none,0,0,[],Nat.zero_le _,Nat.le_refl _,rfl,rfl,HV,HX1⟩
 case round =>
  clear HX1 HV
  obtain ⟨i,A',m,c',vs,hin,hmi,rfl,rfl,HV,HX⟩:=hrel
  by_cases hlt:i < n
  case neg =>
   have hd:decide ((i:Int) < (n:Int))=false:=decide_eq_false (by omega)
   go_wp2_with fail
   go_ret
   have hv:KV w w.heap.size vs (rowsE L):=by have:=HV.out;rwa [take_all (by rw [HL.out];omega)] at this
   have ho:=HX.out.row (i:=0) rfl
   obtain ⟨A9,c9,h9,h1,h2,_,hr⟩:=own_slice ho
   injection h9 with h9 _ hc9
   have hml:m=vs.length:=by have:=ho.1;omega
   exact ⟨A',m,c',rfl,by omega,by rw [hml,hv.1],(hv.later HX.out.up).rbs (by rw [h9];exact hr),HX.out.up⟩
  have hd:decide ((i:Int) < (n:Int))=true:=decide_eq_true (by omega)
  have i0:(0:Int)≤(i:Int):=by omega
  have i1:(i:Int) < (n:Int):=by omega
  obtain ⟨b,oo,r,rfl,hb,hr,hrg,hen⟩:=(HES.out w (Below.refl _ _)).er hlt
  have HR:=Lib.hid hr
  have HRG:Hid (∀ z,Below w.heap.size w z→z.rangeAt b (oo + i * 7) [.slice r.A r.e.row.length r.c,.int .i64 r.e.fam,.slice r.B r.e.qual.length r.d,.int .i64 r.e.ts,.int .i64 r.e.seq,.int .i64 r.e.kind,.slice r.D r.e.val.length r.q]):=Lib.hid fun z hz j v hj=>(hz.cell (p:=⟨b,_,none⟩) hb).trans (hrg j v hj)
  have HEN:Hid (∀ z,Below w.heap.size w z→r.En z):=Lib.hid fun z hz=>hen.later hz
  have HKV:Hid (KV w w.heap.size [.slice r.A r.e.row.length r.c] [r.e.row]):=Lib.hid (kv_one hen (Below.refl _ _))
  clear hb hr hrg hen
  go_upto_region 5 with (first
   | (refine wl_rowR rfl 60 (.tmp 11) rfl rfl (HRG.out _ HX.out.up) ent_rowR ?_)
   | (refine wl_alloc rfl rfl [.slice none 0 0,.int .i64 0,.slice none 0 0,.int .i64 0,.int .i64 0,.int .i64 0,.slice none 0 0] (.inl (by kernel_rfl)) HX.out ?_;intro g5 y1 hz _;have HY1:Hid (OW w [boxO g5 [.slice none 0 0,.int .i64 0,.slice none 0 0,.int .i64 0,.int .i64 0,.int .i64 0,.slice none 0 0],rowO 34 1 (.slice A' m c') m vs] y1):=Lib.hid (hz.perm (fr_perm _ _));clear hz)
   | (refine wl_put rfl (.tmp 5) (.tmp 12) rfl HY1.out 0 rfl rfl [.slice r.A r.e.row.length r.c,.int .i64 r.e.fam,.slice r.B r.e.qual.length r.d,.int .i64 r.e.ts,.int .i64 r.e.seq,.int .i64 r.e.kind,.slice r.D r.e.val.length r.q] rfl rfl (by kernel_rfl) (by simp [Value.oneCell']) ?_;intro y2 hz _;have HY:Hid (OW w [boxO g5 [.slice r.A r.e.row.length r.c,.int .i64 r.e.fam,.slice r.B r.e.qual.length r.d,.int .i64 r.e.ts,.int .i64 r.e.seq,.int .i64 r.e.kind,.slice r.D r.e.val.length r.q],rowO 34 1 (.slice A' m c') m vs] y2):=Lib.hid hz;clear hz HY1))
  by_cases hi0:i=0
  case pos =>
   subst hi0
   have HKK:Hid (rowsE (L.take 1)=rowsE (L.take 0) ++ [r.e.row]):=Lib.hid (rows_add HR.out (by show ([]:List (List UInt8)).getLast? ≠ _;exact fun h=>by cases h))
   refine lt_start [] (by kernel_rfl) ?_
   intro xd hd
   refine ⟨fun z=>OW w [boxO g5 [.slice r.A r.e.row.length r.c,.int .i64 r.e.fam,.slice r.B r.e.qual.length r.d,.int .i64 r.e.ts,.int .i64 r.e.seq,.int .i64 r.e.kind,.slice r.D r.e.val.length r.q],rowO 34 1 (.slice A' m c') m vs] z,?_⟩
   have HS:=Lib.hid (HY.out.later hd)
   refine lp2 0 rfl (fun _=>HS.out) ?_
   simp only [Act.put,ls]
   refine lp2 1 rfl (fun _=>HS.out) ?_
   simp only [Act.put,ls]
   refine lp2 2 rfl (fun _=>HS.out) ?_
   simp only [Act.put,ls]
   refine lk 3 rfl (fun _=>HS.out) ?_
   simp only [Act.put,ls]
   refine lk 4 rfl (fun _=>HS.out) ?_
   simp only [Act.put,ls]
   refine lk 5 rfl (fun _=>HS.out) ?_
   simp only [Act.put,ls]
   refine lk 6 rfl (fun _=>HS.out) ?_
   simp only [Act.put,ls]
   refine lk 7 rfl (fun _=>HS.out) ?_
   simp only [Act.put,ls]
   refine lk 8 rfl (fun _=>HS.out) ?_
   simp only [Act.put,ls]
   refine lk 9 rfl (fun _=>HS.out) ?_
   simp only [Act.put,ls]
   refine lk 10 rfl (fun _=>HS.out) ?_
   simp only [Act.put,ls]
   refine lk 11 rfl (fun _=>HS.out) ?_
   simp only [Act.put,ls]
   refine lk 12 rfl (fun _=>HS.out) ?_
   simp only [Act.put,ls]
   refine lp2 13 rfl (fun _=>HS.out) ?_
   simp only [Act.put,ls]
   refine lt_done (by kernel_rfl) ?_
   replace HY:=Lib.hid HS.out
   clear HS
   go_wp2_with (first
    | (refine wpList_load_cell rfl 34 (.tmp 28) rfl rfl (HY.out.cell (i:=0) (j:=0) rfl rfl) Tryz.isAgg34 ?_)
    | (refine wl_build rfl #[(0,.tmp 29)] rfl #[.slice r.A r.e.row.length r.c] Tryz.keyS5 (.slice none 0 0) (by kernel_rfl) (by decide) (by decide) (by decide) rfl (by kernel_rfl) HY.out ?_;intro g9 z4 hz _;have HZ4:Hid (OW w (rowO 34 1 (.slice (some ⟨g9,0,none⟩) 1 1) 1 [.slice r.A r.e.row.length r.c]::[boxO g5 [.slice r.A r.e.row.length r.c,.int .i64 r.e.fam,.slice r.B r.e.qual.length r.d,.int .i64 r.e.ts,.int .i64 r.e.seq,.int .i64 r.e.kind,.slice r.D r.e.val.length r.q],rowO 34 1 (.slice A' m c') m vs]) z4):=Lib.hid (hz.perm (fr_perm _ _));clear hz HY)
    | (at_builtin;go_must (refine wl_append rfl (.tmp 27) (.tmp 30) rfl Tryz.keyS5 HZ4.out 2 rfl rfl _ (some ⟨g9,0,none⟩) 1 1 [.slice r.A r.e.row.length r.c] rfl (Reads.own (HZ4.out.row (i:=0) rfl)) (by simp [Value.oneCell']) (by unfold maxLen;omega) (by omega) ?_);intro A9 c9 z5 hz _;have HZ5:Hid (OW w (rowO 34 1 (.slice (some ⟨g9,0,none⟩) 1 1) 1 [.slice r.A r.e.row.length r.c]::[boxO g5 [.slice r.A r.e.row.length r.c,.int .i64 r.e.fam,.slice r.B r.e.qual.length r.d,.int .i64 r.e.ts,.int .i64 r.e.seq,.int .i64 r.e.kind,.slice r.D r.e.val.length r.q],rowO 34 1 (.slice A9 (m + 1) c9) (m + 1) (vs ++ [.slice r.A r.e.row.length r.c])]) z5):=Lib.hid hz;clear hz HZ4))
   go_roundw
   case rel=>exact ⟨1,A9,m + 1,c9,vs ++ [Value.slice r.A r.e.row.length r.c],by omega,by omega,by go_num,rfl,Lib.hid (by rw [HKK.out];exact HV.out.app HKV.out),Lib.hid ((HZ5.out.erase 0).erase 0)⟩
   case measure=>simp [intOf];omega
  have i9:0 < i:=by omega
  have e2:((i:Int) == 0)=false:=beq_eq_false_iff_ne.2 (by omega)
  have e3:(i == 0)=false:=beq_eq_false_iff_ne.2 hi0
  have i10:(1:Int)≤(i:Int):=by omega
  have s3:IntKind.i64.wrap ((i:Int) - 1)=(i:Int) - 1:=i64_sum (by omega) (by omega)
  obtain ⟨b',o',q,heq,hb',hq,hqg,hqn⟩:=(HES.out w (Below.refl _ _)).er (show i - 1 < n by omega)
  injection heq with heq
  injection heq with hb9 ho9
  subst hb9 ho9
  have i2:((i:Int) - 1).toNat=i - 1:=by omega
  have i3:(0:Int)≤(i:Int) - 1:=by omega
  have i4:(i:Int) - 1 < (n:Int):=by omega
  have HQG:Hid (∀ z,Below w.heap.size w z→z.cell? ⟨b,oo + (i - 1) * 7,none⟩=some (.slice q.A q.e.row.length q.c)):=Lib.hid fun z hz=>(hz.cell (p:=⟨b,_,none⟩) hb').trans (hqg 0 _ rfl)
  have HQN:Hid (∀ z,Below w.heap.size w z→q.En z):=Lib.hid fun z hz=>hqn.later hz
  have HLA:Hid ((rowsE (L.take i)).getLast?=some q.e.row):=Lib.hid (by have h:=rowsE_last hq;rwa [show i - 1 + 1=i from by omega] at h)
  obtain ⟨cv,hcv⟩:∃ z,z=(q.e.row == r.e.row):=⟨_,rfl⟩
  have HCV:=Lib.hid hcv.symm
  clear hb' hq hqg hqn hcv
  refine lt_start [] (by kernel_rfl) ?_
  intro xd hd
  refine ⟨fun z=>OW w [boxO g5 [.slice r.A r.e.row.length r.c,.int .i64 r.e.fam,.slice r.B r.e.qual.length r.d,.int .i64 r.e.ts,.int .i64 r.e.seq,.int .i64 r.e.kind,.slice r.D r.e.val.length r.q],rowO 34 1 (.slice A' m c') m vs] z,?_⟩
  have HS:=Lib.hid (HY.out.later hd)
  refine lp2 0 rfl (fun _=>HS.out) ?_
  simp only [Act.put,ls]
  refine lp2 1 rfl (fun _=>HS.out) ?_
  simp only [Act.put,ls]
  refine lp2 2 rfl (fun _=>HS.out) ?_
  simp only [Act.put,ls]
  refine lp2 3 rfl (fun _=>HS.out) ?_
  simp only [Act.put,ls]
  refine lp2 4 rfl (fun _=>HS.out) ?_
  simp only [Act.put,ls]
  refine lp2 5 rfl (fun _=>HS.out) ?_
  simp only [Act.put,ls]
  refine lp2 6 rfl (fun _=>HS.out) ?_
  simp only [Act.put,ls]
  refine lp2 7 rfl (fun _=>HS.out) ?_
  simp only [Act.put,ls]
  refine lq 8 [11,12,13] rfl (yi_cell rfl rfl rfl (fun w hS=>HQG.out w hS.up) Tryz.isAgg34) HS.out ?_
  simp only [Act.put,ls]
  refine lp2 9 rfl (fun _=>HS.out) ?_
  simp only [Act.put,ls]
  refine lq 10 [11,12,13] rfl (yi_cell rfl rfl rfl (fun w hS=>OW.cell hS (i:=0) (j:=0) rfl rfl) Tryz.isAgg34) HS.out ?_
  simp only [Act.put,ls]
  refine lt_call 11 rfl (by kernel_rfl) rfl rfl ⟨_,Tryz.func87,by decide,by kernel_rfl⟩ [.slice q.A q.e.row.length q.c,.slice r.A r.e.row.length r.c] rfl ?_
  refine (equal_any q.e.row r.e.row q.A r.A _ q.c _ r.c _ (HQN.out _ HS.out.up).row.rb (HEN.out _ HS.out.up).row.rb).mono ?_
  rw [HCV.out]
  rintro rr z9 ⟨rfl,rfl⟩
  refine ⟨_,rfl,fun _=>HS.out,?_⟩
  simp only [Act.put,ls]
  refine lp2 12 rfl (fun _=>HS.out) ?_
  simp only [Act.put,ls]
  refine lp2 13 rfl (fun _=>HS.out) ?_
  simp only [Act.put,ls]
  refine lt_done (by kernel_rfl) ?_
  replace HY:=Lib.hid HS.out
  clear HS
  cases cv with
  | true =>
   have HKK:Hid (rowsE (L.take (i + 1))=rowsE (L.take i)):=Lib.hid (rows_same HR.out (by rw [HLA.out,beq_iff_eq.1 HCV.out]))
   go_wp2_with fail
   go_roundw
   case rel=>exact ⟨i + 1,A',m,c',vs,by omega,by omega,by go_num,rfl,Lib.hid (by rw [HKK.out];exact HV.out),Lib.hid (HY.out.erase 0)⟩
   case measure=>simp [intOf];omega
  | false =>
   have HKK:Hid (rowsE (L.take (i + 1))=rowsE (L.take i) ++ [r.e.row]):=Lib.hid (rows_add HR.out (by rw [HLA.out];intro h;injection h with h;have h2:=HCV.out;rw [h,beq_self_eq_true] at h2;cases h2))
   go_wp2_with (first
    | (refine wpList_load_cell rfl 34 (.tmp 28) rfl rfl (HY.out.cell (i:=0) (j:=0) rfl rfl) Tryz.isAgg34 ?_)
    | (refine wl_build rfl #[(0,.tmp 29)] rfl #[.slice r.A r.e.row.length r.c] Tryz.keyS5 (.slice none 0 0) (by kernel_rfl) (by decide) (by decide) (by decide) rfl (by kernel_rfl) HY.out ?_;intro g9 z4 hz _;have HZ4:Hid (OW w (rowO 34 1 (.slice (some ⟨g9,0,none⟩) 1 1) 1 [.slice r.A r.e.row.length r.c]::[boxO g5 [.slice r.A r.e.row.length r.c,.int .i64 r.e.fam,.slice r.B r.e.qual.length r.d,.int .i64 r.e.ts,.int .i64 r.e.seq,.int .i64 r.e.kind,.slice r.D r.e.val.length r.q],rowO 34 1 (.slice A' m c') m vs]) z4):=Lib.hid (hz.perm (fr_perm _ _));clear hz HY)
    | (at_builtin;go_must (refine wl_append rfl (.tmp 27) (.tmp 30) rfl Tryz.keyS5 HZ4.out 2 rfl rfl _ (some ⟨g9,0,none⟩) 1 1 [.slice r.A r.e.row.length r.c] rfl (Reads.own (HZ4.out.row (i:=0) rfl)) (by simp [Value.oneCell']) (by unfold maxLen;omega) (by omega) ?_);intro A9 c9 z5 hz _;have HZ5:Hid (OW w (rowO 34 1 (.slice (some ⟨g9,0,none⟩) 1 1) 1 [.slice r.A r.e.row.length r.c]::[boxO g5 [.slice r.A r.e.row.length r.c,.int .i64 r.e.fam,.slice r.B r.e.qual.length r.d,.int .i64 r.e.ts,.int .i64 r.e.seq,.int .i64 r.e.kind,.slice r.D r.e.val.length r.q],rowO 34 1 (.slice A9 (m + 1) c9) (m + 1) (vs ++ [.slice r.A r.e.row.length r.c])]) z5):=Lib.hid hz;clear hz HZ4))
   go_roundw
   case rel=>exact ⟨i + 1,A9,m + 1,c9,vs ++ [Value.slice r.A r.e.row.length r.c],by omega,by omega,by go_num,rfl,Lib.hid (by rw [HKK.out];exact HV.out.app HKV.out),Lib.hid ((HZ5.out.erase 0).erase 0)⟩
   case measure=>simp [intOf];omega
def SumdP (w:World) (l:List UInt8) (os:List Ob) (e:Ending) (z:World):Prop:=∃ A c,e = .returned (.slice A (l.length + 4) c)∧OW w (bytO 5 (A,c,sumdB l)::os) z
theorem sumd_perm (a b:Ob) (X:List Ob):((a::X) ++ [b]).Perm (a::b::X):=by (refine perm_of_cnt fun a=>?_;(simp only [cntO_app,cntO_cons,cntO_nil]) <;> omega)
set_option maxRecDepth 100000 in
theorem summedR_any {w x:World} {A:Option Addr} {n c:Nat} {l:List UInt8} {os:List Ob} (h:OW w (bytO 5 (A,c,l)::os) x) (hn:l.length=n) (hn2:n≤1000000000) (ht:TabAt 0 w) :
  Calls Tryz.prog 116 #[.slice A n c] x (SumdP w l os):=by
 have HX:=Lib.hid h
 have f1:Hid (∀ x:List UInt8,[x].flatten=x):=Lib.hid fun x=>by simp
 have HTB:Hid (∀ w',Below w.heap.size w w'→TabAt 0 w'):=Lib.hid fun w' h=>ht.later h
 have HN:=Lib.hid hn
 obtain ⟨s,hsl⟩:∃ s,s=sumL l:=⟨_,rfl⟩
 have HSL:=Lib.hid hsl
 have hs32:s < 4294967296:=by rw [hsl];exact sumL_lt l
 clear h hn ht hsl
 go_enter Tryz.func116,Tryz.ntmps116
 go_wp2_with (first
  | (go_at_call 135;go_must (refine (sum_any [l] _ 1 1 _ (by omega) (by exact (HX.out.sl (i:=0) rfl HN.out).one _ _) (HTB.out _ (HX.out.al _).up)).mono ?_);rintro e w1 ⟨rfl,rfl⟩;rw [f1.out,← HSL.out];have HX1:=Lib.hid (HX.out.al (.cells #[.slice A n c] 34)))
  | (go_at_call 134;go_must (refine (rlow_any s _ hs32).mono ?_);rintro e w2 hp;obtain ⟨A2,c2,rfl,_,ho,hb⟩:=hp.at_ (n:=4) rfl;have HX2:Hid (OW w (bytO 5 (A,c,l)::bytO 5 (A2,c2,lowB s)::os) w2):=Lib.hid (((HX.out.al (.cells #[.slice A n c] 34)).app (OW.byt1 hb ho)).perm (sumd_perm _ _ _));clear hp ho hb)
  | (at_builtin;go_must (refine wl_appB rfl (.tmp 3) (.tmp 7) rfl Tryz.u8s' HX2.out 0 rfl HN.out rfl _ A2 4 c2 (lowB s) rfl (HX2.out.sl (i:=1) rfl rfl).rb (by omega) ?_);intro A3 c3 w3 hz;have HX3:Hid (OW w (bytO 5 (A3,c3,l ++ lowB s)::bytO 5 (A2,c2,lowB s)::os) w3):=Lib.hid hz;clear hz))
 go_ret
 refine ⟨A3,c3,by rw [HN.out];rfl,?_⟩
 unfold sumdB
 rw [← HSL.out]
 exact HX3.out.erase 1
set_option maxRecDepth 100000 in
set_option maxHeartbeats 1000000 in
theorem unsummed_any (l:List UInt8) (A:Option Addr) (n c:Nat) (w:World) (hs:Sl w A n c l) (h4:4≤n) (ht:TabAt 0 w) :
  Calls Tryz.prog 70 #[.slice A n c] w fun e z=>e = .returned (.tuple #[.slice A (n - 4) c,.bool (unsB l)])∧Below w.heap.size w z:=by
 have f1:Hid (∀ x:List UInt8,[x].flatten=x):=Lib.hid fun x=>by simp
 obtain ⟨k,rfl⟩:∃ k,n=k + 4:=⟨n - 4,by omega⟩
 have hcap:=hs.cap
 have hlim:=hs.lim
 have hlen:=hs.len
 obtain ⟨b1,o1,_,rfl,_,_,_⟩:=hs.rb.at_ (show 0 < k + 4 by omega)
 have HB:Hid (unsB l=(l.drop k == lowB (sumL (l.take k)))):=Lib.hid (by unfold unsB;rw [hlen,show k + 4 - 4=k from by omega])
 rw [show k + 4 - 4=k from by omega]
 have HT4:Hid (∀ w',Below w.heap.size w w'→Sl w' (some ⟨b1,o1,none⟩) k c (l.take k)):=Lib.hid fun w' h=>(hs.later h).take (m:=k) (by omega)
 have HD:Hid (∀ w',Below w.heap.size w w'→Sl w' (some ⟨b1,o1 + k,none⟩) 4 (c - k) (l.drop k)):=Lib.hid fun w' h=>by
  have:=(hs.later h).drop (k:=k) (by omega) (by omega)
  rw [show k + 4 - k=4 from by omega,Option.map_some,show (⟨b1,o1,none⟩:Addr).add k=⟨b1,o1 + k,none⟩ from by simp [Addr.add]] at this
  exact this
 have HTB:Hid (∀ w',Below w.heap.size w w'→TabAt 0 w'):=Lib.hid fun w' h=>ht.later h
 obtain ⟨t,htk⟩:∃ t,t=l.take k:=⟨_,rfl⟩
 obtain ⟨u,hu⟩:∃ t,t=l.drop k:=⟨_,rfl⟩
 rw [← htk] at HT4 HB
 rw [← hu] at HD HB
 obtain ⟨s,hsl⟩:∃ s,s=sumL t:=⟨_,rfl⟩
 have HSL:=Lib.hid hsl
 have hs32:s < 4294967296:=by rw [hsl];exact sumL_lt t
 rw [← hsl] at HB
 obtain ⟨bo,hbo⟩:∃ z,z=(u == lowB s):=⟨_,rfl⟩
 have HBO:=Lib.hid hbo.symm
 rw [HB.out,HBO.out]
 clear hs hsl htk hu ht h4 hbo HB
 have i1:(0:Int)≤(k:Int):=by omega
 have i2:(k:Int)≤(c:Int):=by omega
 have i3:(k:Int)≤(k:Int) + 4:=by omega
 have i5:¬ c=k:=by omega
 have HX:=Lib.hid (OW.nil w)
 go_enter Tryz.func70,Tryz.ntmps70
 go_upto_region 2 with fail
 refine lt_start [] (by kernel_rfl) ?_
 intro xd hd
 refine ⟨fun z=>Below w.heap.size w z,?_⟩
 have HS:=Lib.hid (hd)
 have HY:=Lib.hid ((OW.nil w).later hd)
 refine lp2 0 rfl (fun _=>HS.out) ?_
 simp only [Act.put,ls]
 refine lp2 1 rfl (fun _=>HS.out) ?_
 simp only [Act.put,ls]
 refine lp2 2 rfl (fun _=>HS.out) ?_
 simp only [Act.put,ls]
 refine lp2 3 rfl (fun _=>HS.out) ?_
 simp only [Act.put,ls]
 refine lp2 4 rfl (fun _=>HS.out) ?_
 simp only [Act.put,ls]
 refine lp2 5 rfl (fun _=>HS.out) ?_
 simp only [Act.put,ls]
 refine lp2 6 rfl (fun _=>HS.out) ?_
 simp only [Act.put,ls]
 refine lp2 7 rfl (fun _=>HS.out) ?_
 simp only [Act.put,ls]
 refine lp2 8 rfl (fun _=>HS.out) ?_
 simp only [Act.put,ls]
 refine lt_op 9 rfl (by kernel_rfl) rfl ?_
 refine wpo_build rfl #[.slice (some ⟨b1,o1,none⟩) k c] Tryz.keyS5 (.slice none 0 0) (by kernel_rfl) (by decide) (by decide) (by decide) rfl (by kernel_rfl) HY.out ?_
 intro g9 z4 hz hb9
 replace HY:Hid (OW w [rowO 34 1 (.slice (some ⟨g9,0,none⟩) 1 1) 1 [.slice (some ⟨b1,o1,none⟩) k c]] z4):=Lib.hid hz
 replace HS:=Lib.hid (HS.out.trans (hb9.mono HS.out.size))
 clear hz
 refine ⟨fun _=>HS.out,?_⟩
 simp only [Act.put,ls]
 refine lt_call 10 rfl (by kernel_rfl) rfl rfl ⟨_,Tryz.func135,by decide,by kernel_rfl⟩ [.slice (some ⟨g9,0,none⟩) 1 1] rfl ?_
 refine (sum_any [t] _ 1 1 _ (by omega) ((kv_sl (HT4.out _ HS.out)).rbs (Reads.own (HY.out.row (i:=0) rfl))) (HTB.out _ HS.out)).mono ?_
 rintro e w1 ⟨rfl,rfl⟩
 rw [f1.out,← HSL.out]
 refine ⟨_,rfl,fun _=>HS.out,?_⟩
 simp only [Act.put,ls]
 refine lt_call 11 rfl (by kernel_rfl) rfl rfl ⟨_,Tryz.func134,by decide,by kernel_rfl⟩ [.int .u32 s] rfl ?_
 refine (rlow_any s _ hs32).mono ?_
 rintro e w2 hp
 obtain ⟨A2,c2,rfl,hsl2,ho,hb⟩:=hp.at_ (n:=4) rfl
 have HL2:=Lib.hid hsl2
 replace HS:=Lib.hid (HS.out.trans (hb.mono HS.out.size))
 clear hp ho hb hsl2
 refine ⟨_,rfl,fun _=>HS.out,?_⟩
 simp only [Act.put,ls]
 refine lt_call 12 rfl (by kernel_rfl) rfl rfl ⟨_,Tryz.func87,by decide,by kernel_rfl⟩ [.slice (some ⟨b1,o1 + k,none⟩) 4 (c - k),.slice A2 4 c2] rfl ?_
 refine (equal_any u (lowB s) _ A2 4 _ 4 c2 _ (HD.out _ HS.out).rb HL2.out.rb).mono ?_
 rw [HBO.out]
 rintro rr z9 ⟨rfl,rfl⟩
 refine ⟨_,rfl,fun _=>HS.out,?_⟩
 simp only [Act.put,ls]
 refine lp2 13 rfl (fun _=>HS.out) ?_
 simp only [Act.put,ls]
 refine lp2 14 rfl (fun _=>HS.out) ?_
 simp only [Act.put,ls]
 refine lt_done (by kernel_rfl) ?_
 have HB3:=Lib.hid HS.out
 clear HS
 go_wp2_with fail
 go_ret2
 exact ⟨rfl,HB3.out⟩
end Go.Proofs.YtfdbcfaeiglbeaaGreatDoor
