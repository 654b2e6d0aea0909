/-
 Layer 7: (*Run).Verify. (Printed by gen_runv1.py.)
-/
import Derived.Test.YtfdbcfaeiglbeaaGreatDoorRXV
namespace Go.Proofs.YtfdbcfaeiglbeaaGreatDoor
open Go.RowKit
structure VerI (r:RunR) (i:Nat) (L:List Ent):Prop where
  brk:brokenN r r.ps 0=brokenN r (r.ps.drop i) i
  all:(allR r).1=L ++ (allF r (r.ps.drop i)).1
  few:L.length≤i * 131072
theorem VerI.zero (r:RunR):VerI r 0 []:=⟨by rw [List.drop_zero],by rw [List.drop_zero];rfl,Nat.le_refl _⟩
theorem drop_at {α:Type} {l:List α} {i:Nat} {a:α} (h:l[i]?=some a):l.drop i=a::l.drop (i + 1):=by
 obtain ⟨hi,he⟩:=List.getElem?_eq_some_iff.1 h
 rw [List.drop_eq_getElem_cons hi,he]
theorem VerI.step {r:RunR} {i:Nat} {L B:List Ent} {p:PcR} (h:VerI r i L) (hp:r.ps[i]?=some p) (hb:blkR r p=some B):VerI r (i + 1) (L ++ B):=by
 have h1:=h.brk
 have h2:=h.all
 rw [drop_at hp] at h1 h2
 refine ⟨?_,?_,?_⟩
 ·rw [h1]
  show (if (blkR r p).isNone then some i else brokenN r (r.ps.drop (i + 1)) (i + 1))=_
  rw [hb];rfl
 ·rw [h2]
  show L ++ (match blkR r p with
   | none=>([],false)
   | some L=>(L ++ (allF r (r.ps.drop (i + 1))).1,(allF r (r.ps.drop (i + 1))).2)).1=_
  rw [hb,List.append_assoc]
 ·have h3:=blkR_len hb
  have h4:=h.few
  rw [List.length_append];omega
theorem VerI.bad {r:RunR} {i:Nat} {L:List Ent} {p:PcR} (h:VerI r i L) (hp:r.ps[i]?=some p) (hb:blkR r p=none):verR r=((i:Int),73):=by
 have h1:=h.brk
 rw [drop_at hp] at h1
 have h2:brokenN r (p::r.ps.drop (i + 1)) i=some i:=by
  show (if (blkR r p).isNone then some i else brokenN r (r.ps.drop (i + 1)) (i + 1))=_
  rw [hb];rfl
 unfold verR
 rw [h1,h2]
theorem VerI.done {r:RunR} {i:Nat} {L:List Ent} (h:VerI r i L) (hi:r.ps.length≤i):verR r=if fineR r L=true then (-1,0) else (-1,72):=by
 have h1:=h.brk
 have h2:=h.all
 rw [List.drop_of_length_le hi] at h1 h2
 have h3:(allR r).1=L:=by rw [h2];exact List.append_nil _
 unfold verR
 rw [h1,h3];rfl
def fineB (ix:Nat) (L:List Ent):Bool:=L.all fun e=>decide (e.seq≤(ix:Int) * 16 + 15)
theorem fineB_snoc (ix:Nat) (L:List Ent) (e:Ent):fineB ix (L ++ [e])=(fineB ix L && decide (e.seq≤(ix:Int) * 16 + 15)):=by unfold fineB;rw [List.all_append];simp
theorem fine_is (r:RunR) (L:List Ent):fineR r L=(decide (L.length=r.count) && fineB r.index L && rightR r (rowsE L)):=by
 unfold fineR fineB
 congr 2
 congr 1
 funext e
 rw [Int.mul_comm]
def clipV (k:Option Addr×List UInt8):Value := .slice k.1 k.2.length k.2.length
def KsIn (T:List Ob) (ks:List (Option Addr×List UInt8)):Prop:=∀ k,k ∈ ks→(CAt k.1 k.2∧k.2.length≤9223372036854775807)∧clipO k.1 k.2 ∈ T
theorem KsIn.more {T T':List Ob} {ks:List (Option Addr×List UInt8)} (h:KsIn T ks) (hs:∀ o,o ∈ T→o ∈ T'):KsIn T' ks:=fun k hk=>⟨(h k hk).1,hs _ (h k hk).2⟩
theorem KsIn.snoc {T:List Ob} {ks:List (Option Addr×List UInt8)} {A:Option Addr} {l:List UInt8} (h:KsIn T ks) (ha:CAt A l) (hl:l.length≤9223372036854775807) (hm:clipO A l ∈ T):KsIn T (ks ++ [(A,l)]):=fun k hk=>by
 rcases List.mem_append.1 hk with hk | hk
 ·exact h k hk
 ·cases List.mem_singleton.1 hk
  exact ⟨⟨ha,hl⟩,hm⟩
theorem seen_rbs {w x:World} {os:List Ob} {T:TypeId} {SA:Option Addr} {n sc:Nat} {ks:List (Option Addr×List UInt8)} {rows:List (List UInt8)} (h:OW w os x) (hr:rowO T 1 (.slice SA n sc) n (ks.map clipV) ∈ os) (hk:KsIn os ks) (hl:ks.map (·.2)=rows):RBs x x.heap.size SA n rows:=by
 refine ⟨ks.map clipV,Reads.own (h.rowm hr),by rw [← hl,List.length_map,List.length_map],fun i k hi=>?_⟩
 rw [← hl,List.getElem?_map] at hi
 cases hki:ks[i]? with
 | none=>rw [hki] at hi;cases hi
 | some kk =>
  rw [hki] at hi
  have hi:some kk.2=some k:=hi
  injection hi with hi
  subst hi
  obtain ⟨⟨ca,cl⟩,cm⟩:=hk kk (List.mem_of_getElem? hki)
  refine ⟨kk.1,kk.2.length,by rw [List.getElem?_map,hki];rfl,Nat.le_refl _,cl,fun h0=>?_,(h.clipSlm ca cm rfl cl).rb⟩
  rcases ca with ⟨_,h1⟩ | ⟨g,h1⟩
  ·rw [h1];rfl
  ·rw [h1] at h0;cases h0
theorem leaves_marks {P:Program} {fn:Func} {tmps:Array Value} {R:Ending→World→Prop} {w:World}:∀ {Ds:List Nat} {os:List Ob} {z:World},OW w (os ++ Ds.map dfrO) z→(∀ z',OW w os z'→LeavesInM Fence.wide 0 P fn tmps R [] .returning z')→LeavesInM Fence.wide 0 P fn tmps R (Ds.map markD) .returning z
 | [],os,z,h,k=>k z (by rw [List.map_nil,List.append_nil] at h;exact h)
 | D::Ds,os,z,h,k=>leaves_mark (D:=D) (es:=Ds.map dfrO) h fun z' h'=>leaves_marks h' k
theorem vload_yes {q:RunRec} {w:World} {L:List Ent} {r:PRec} (h:RunAt q w) {k:Nat} (hk:q.rs[k]?=some r) (hin:PcIn 8 q.r.bytes.length r.p) (ht:TabAt 0 w) (hb:blkR q.r r.p=some L) :
  Calls Tryz.prog 85 #[.pointer (some ⟨q.g,0,none⟩),.int .i64 k] w fun e z=>∃ g os,e = .returned (.pointer (some ⟨g,0,none⟩))∧Bk5 (resB (cutS q.r.bytes r.p.lo (r.p.hi - r.p.lo))) L g os∧OW w os z :=
 (load_any q w h k r hk hin ht).mono fun e z hp=>by
  rcases hp with ⟨L',g,os,h1,h2,h3,h4⟩ | ⟨h1,_⟩
  ·rw [hb] at h1;injection h1 with h1;subst h1
   exact ⟨g,os,h2,h3,h4⟩
  ·rw [hb] at h1;cases h1
theorem vload_no {q:RunRec} {w:World} {r:PRec} (h:RunAt q w) {k:Nat} (hk:q.rs[k]?=some r) (hin:PcIn 8 q.r.bytes.length r.p) (ht:TabAt 0 w) (hb:blkR q.r r.p=none) :
  Calls Tryz.prog 85 #[.pointer (some ⟨q.g,0,none⟩),.int .i64 k] w fun e z=>e = .returned (.pointer none)∧Below w.heap.size w z :=
 (load_any q w h k r hk hin ht).mono fun e z hp=>by
  rcases hp with ⟨L',g,os,h1,h2,h3,h4⟩ | ⟨_,h2,h3⟩
  ·rw [hb] at h1;cases h1
  ·exact ⟨h2,h3⟩
theorem ver_p1 (H X p C:List Ob):(((H ++ X) ++ p) ++ C).Perm ((H ++ (C ++ X)) ++ p):=by (refine perm_of_cnt fun a=>?_;(simp only [cntO_app]) <;> omega)
theorem ver_p2 (H X p:List Ob) (o:Ob):(((H ++ X) ++ p) ++ [o]).Perm ((H ++ (o::X)) ++ p):=by (refine perm_of_cnt fun a=>?_;(simp only [cntO_app,cntO_cons,cntO_nil]) <;> omega)
theorem ver_p3 (H:List Ob) (c G:Ob) (bo T M p:List Ob):((H ++ (c::(G::(bo ++ (T ++ M))))) ++ p).Perm ((H ++ (G::(bo ++ ((c::T) ++ M)))) ++ p):=by (refine perm_of_cnt fun a=>?_;(simp only [cntO_app,cntO_cons]) <;> omega)
theorem ver_p4 (H:List Ob) (G d:Ob) (bo T M:List Ob):((H ++ (G::(bo ++ (T ++ M)))) ++ [d]).Perm ((G::bo) ++ (H ++ (T ++ (d::M)))):=by (refine perm_of_cnt fun a=>?_;(simp only [cntO_app,cntO_cons,cntO_nil]) <;> omega)
theorem ver_p5 (H X bo:List Ob) (G:Ob):(((H ++ X) ++ bo) ++ [G]).Perm (H ++ (G::(bo ++ X))):=by (refine perm_of_cnt fun a=>?_;(simp only [cntO_app,cntO_cons,cntO_nil]) <;> omega)
theorem ver_p7 (H X bo:List Ob) (G:Ob):(H ++ (G::(bo ++ X))).Perm (bo ++ (H ++ (G::X))):=by (refine perm_of_cnt fun a=>?_;(simp only [cntO_app,cntO_cons]) <;> omega)
theorem ver_p8 (H X bo p:List Ob):((H ++ (bo ++ X)) ++ p).Perm (bo ++ (H ++ (X ++ p))):=by (refine perm_of_cnt fun a=>?_;(simp only [cntO_app]) <;> omega)
theorem last_at {l:List (Option Addr×List UInt8)} {n:Nat} (hl:l.length=n) (hn:0 < n):∃ k,l[n - 1]?=some k∧k ∈ l∧(l.map (·.2)).getLast?=some k.2:=by
 have hi:n - 1 < l.length:=by omega
 refine ⟨l[n - 1],List.getElem?_eq_getElem hi,List.getElem_mem hi,?_⟩
 rw [List.getLast?_eq_getElem?,List.length_map,List.getElem?_map,hl,List.getElem?_eq_getElem hi];rfl
def VrI (q:RunRec) (gr gc gf gs gb g ix:Nat) (L:List Ent) (bo M:List Ob) (pre:List Ent) (os:List Ob):Prop :=
 ∃ (SA:Option Addr) (n sc:Nat) (ks:List (Option Addr×List UInt8)) (T:List Ob),os=boxO gr [.pointer (some ⟨q.g,0,none⟩)]::boxO gc [.int .i64 ((L.length + pre.length:Nat):Int)]::boxO gf [.bool (fineB ix (L ++ pre))]::boxO gs [.slice SA n sc]::rowO 34 1 (.slice SA n sc) n (ks.map clipV)::boxO gb [.pointer (some ⟨g,0,none⟩)]::(bo ++ (T ++ M))∧ks.length=n∧ks.map (·.2)=rowsE (L ++ pre)∧KsIn T ks
set_option maxRecDepth 1000000 in
set_option maxHeartbeats 16000000 in
theorem verify_any (q:RunRec) (hf:RunF q) (w:World) (h:RunAt q w) (ht:TabAt 0 w) (hix:q.r.index≤1099511627776) :
  Calls Tryz.prog 30 #[.pointer (some ⟨q.g,0,none⟩)] w fun e z=>e = .returned (.tuple #[.int .i64 (verR q.r).1,.int .i64 (verR q.r).2])∧Below w.heap.size w z:=by
 have HRA:Hid (∀ z,Below w.heap.size w z→RunAt q z):=Lib.hid fun z hz=>h.later hz
 have HTB:Hid (∀ z,Below w.heap.size w z→TabAt 0 z):=Lib.hid fun z hz=>ht.later hz
 have HCB:Hid (∀ z,Below w.heap.size w z→z.cell? ⟨q.g,9,none⟩=some (.slice q.PA q.rs.length q.pc)):=Lib.hid fun z hz=>(h.later hz).cell rfl
 have HCI:Hid (∀ z,Below w.heap.size w z→z.cell? ⟨q.g,3,none⟩=some (.int .i64 q.r.index)):=Lib.hid fun z hz=>(h.later hz).cell rfl
 have HCN:Hid (∀ z,Below w.heap.size w z→z.cell? ⟨q.g,2,none⟩=some (.int .i64 q.r.count)):=Lib.hid fun z hz=>(h.later hz).cell rfl
 have HRF:=Lib.hid hf
 obtain ⟨m,hm⟩:∃ z,z=q.rs.length:=⟨_,rfl⟩
 have hm24:m≤16777216:=by rw [hm,hf.len];exact hf.few
 have HM:Hid (q.r.ps.length=m∧q.rs.length=m):=Lib.hid (by rw [hm,hf.len];exact ⟨rfl,rfl⟩)
 rw [← hm] at HCB
 obtain ⟨ix,hixx⟩:∃ z,z=q.r.index:=⟨_,rfl⟩
 rw [← hixx] at HCI hix
 have HIX:=Lib.hid hixx.symm
 obtain ⟨ct,hct⟩:∃ z,z=q.r.count:=⟨_,rfl⟩
 rw [← hct] at HCN
 have HCT:=Lib.hid hct.symm
 have HX:=Lib.hid (OW.nil w)
 clear h ht hm hixx hct
 refine calls_marks Tryz.func30 rfl ?_
 simp only [Tryz.ntmps30,List.size_toArray,List.length_cons,List.length_nil,Nat.reduceAdd,Nat.reduceSub,Array.replicate_succ,Array.replicate_zero,List.push_toArray,List.append_toArray,List.nil_append,List.cons_append]
 go_wp2_with (first
  | (refine wl_box rfl (.tmp 0) rfl [.pointer (some ⟨q.g,0,none⟩)] rfl HX.out ?_;intro gr x1 hz _;have HX1:Hid (OW w [boxO gr [.pointer (some ⟨q.g,0,none⟩)]] x1):=Lib.hid hz;clear hz HX)
  | (refine wl_alloc rfl rfl [.int .i64 0] (.inr ⟨.int .i64 0,by kernel_rfl,rfl⟩) HX1.out ?_;intro gc x2 hz _;have HX2:Hid (OW w [boxO gr [.pointer (some ⟨q.g,0,none⟩)],boxO gc [.int .i64 0]] x2):=Lib.hid hz;clear hz HX1)
  | (refine wl_alloc rfl rfl [.bool false] (.inr ⟨.bool false,by kernel_rfl,rfl⟩) HX2.out ?_;intro gf x3 hz _;have HX3:Hid (OW w [boxO gr [.pointer (some ⟨q.g,0,none⟩)],boxO gc [.int .i64 0],boxO gf [.bool false]] x3):=Lib.hid hz;clear hz HX2)
  | (refine wl_put1 rfl (.tmp 4) (.const (.int .i64 0)) rfl HX3.out 1 rfl 0 rfl (by simp) _ rfl (by kernel_rfl) rfl ?_;intro x4 hz _;have HX4:Hid (OW w [boxO gr [.pointer (some ⟨q.g,0,none⟩)],boxO gc [.int .i64 0],boxO gf [.bool false]] x4):=Lib.hid hz;clear hz HX3)
  | (refine wl_put1 rfl (.tmp 5) (.const (.bool true)) rfl HX4.out 2 rfl 0 rfl (by simp) _ rfl (by kernel_rfl) rfl ?_;intro x5 hz _;have HX5:Hid (OW w [boxO gr [.pointer (some ⟨q.g,0,none⟩)],boxO gc [.int .i64 0],boxO gf [.bool true]] x5):=Lib.hid hz;clear hz HX4)
  | (refine wl_alloc rfl rfl [.slice none 0 0] (.inr ⟨.slice none 0 0,by kernel_rfl,rfl⟩) HX5.out ?_;intro gs x6 hz _;have HX6:Hid (OW w [boxO gr [.pointer (some ⟨q.g,0,none⟩)],boxO gc [.int .i64 0],boxO gf [.bool true],boxO gs [.slice none 0 0]] x6):=Lib.hid hz;clear hz HX5)
  | (refine wpList_load_cell rfl 41 (.tmp 1) rfl rfl (HX6.out.cell (i:=0) (j:=0) rfl rfl) Tryz.isAgg41 ?_)
  | (refine wpList_load_cell rfl 133 (.tmp 13) rfl rfl (HCB.out _ HX6.out.up) Tryz.isAgg133 ?_))
 have HZ0:Hid (OW w (boxO gr [.pointer (some ⟨q.g,0,none⟩)]::boxO gc [.int .i64 (0:Nat)]::boxO gf [.bool true]::boxO gs [.slice none 0 0]::rowO 34 1 (.slice none 0 0) 0 (([]:List (Option Addr×List UInt8)).map clipV)::([] ++ ([]:List Nat).map dfrO)) x6):=Lib.hid (HX6.out.nilRow 34 1)
 clear HX6
 refine wp_loop (fun a' w'=>∃ (u7 u8 u9 u10 u11 u12 u13 u14 u16 u17 u18 u19 u20 u21 u22 u23 u24 u25 u26 u27 u28 u29 u30 u31 u32 u33 u34 u35 u36 u37 u38 u39 u40 u41 u42 u43 u44 u45 u46 u47 u48 u49 u50 u51 u52 u53 u54 u55 u56 u57 u58 u59 u60 u61 u62 u63 u64 u65 u66 u67 u68 u69 u70 u71 u72 u73 u74 u75 u76 u77 u78 u79 u80:Value) (ds:List Deferred),(∃ (i:Nat) (L:List Ent) (SA:Option Addr) (n sc:Nat) (ks:List (Option Addr×List UInt8)) (T:List Ob) (Ds:List Nat),i≤m∧u16 = .int .i64 i∧ds=Ds.map markD∧Hid (VerI q.r i L)∧Hid (ks.length=n∧ks.map (·.2)=rowsE L∧KsIn T ks)∧Hid (OW w (boxO gr [.pointer (some ⟨q.g,0,none⟩)]::boxO gc [.int .i64 (L.length:Nat)]::boxO gf [.bool (fineB ix L)]::boxO gs [.slice SA n sc]::rowO 34 1 (.slice SA n sc) n (ks.map clipV)::(T ++ Ds.map dfrO)) w'))∧a'=⟨([.pointer (some ⟨q.g,0,none⟩),.pointer (some ⟨gr,0,none⟩),.int .i64 0,.int .i64 0,.pointer (some ⟨gc,0,none⟩),.pointer (some ⟨gf,0,none⟩),.pointer (some ⟨gs,0,none⟩),u7,u8,u9,u10,u11,u12,u13,u14,.int .i64 m,u16,u17,u18,u19,u20,u21,u22,u23,u24,u25,u26,u27,u28,u29,u30,u31,u32,u33,u34,u35,u36,u37,u38,u39,u40,u41,u42,u43,u44,u45,u46,u47,u48,u49,u50,u51,u52,u53,u54,u55,u56,u57,u58,u59,u60,u61,u62,u63,u64,u65,u66,u67,u68,u69,u70,u71,u72,u73,u74,u75,u76,u77,u78,u79,u80]:List Value).toArray,ds⟩) (fun a' _=>m - (intOf (a'.tmps.getD 16 undef)).toNat) ?_ ?_
 ·repeat apply Exists.intro
  refine ⟨?_,rfl⟩
  exact ⟨0,[],none,0,0,[],[],[],Nat.zero_le _,rfl,rfl,Lib.hid (VerI.zero _),Lib.hid ⟨rfl,rfl,fun k hk=>by cases hk⟩,HZ0⟩
 intro _ wr hinv
 obtain ⟨u7,hinv⟩:=hinv
 obtain ⟨u8,hinv⟩:=hinv
 obtain ⟨u9,hinv⟩:=hinv
 obtain ⟨u10,hinv⟩:=hinv
 obtain ⟨u11,hinv⟩:=hinv
 obtain ⟨u12,hinv⟩:=hinv
 obtain ⟨u13,hinv⟩:=hinv
 obtain ⟨u14,hinv⟩:=hinv
 obtain ⟨u16,hinv⟩:=hinv
 obtain ⟨u17,hinv⟩:=hinv
 obtain ⟨u18,hinv⟩:=hinv
 obtain ⟨u19,hinv⟩:=hinv
 obtain ⟨u20,hinv⟩:=hinv
 obtain ⟨u21,hinv⟩:=hinv
 obtain ⟨u22,hinv⟩:=hinv
 obtain ⟨u23,hinv⟩:=hinv
 obtain ⟨u24,hinv⟩:=hinv
 obtain ⟨u25,hinv⟩:=hinv
 obtain ⟨u26,hinv⟩:=hinv
 obtain ⟨u27,hinv⟩:=hinv
 obtain ⟨u28,hinv⟩:=hinv
 obtain ⟨u29,hinv⟩:=hinv
 obtain ⟨u30,hinv⟩:=hinv
 obtain ⟨u31,hinv⟩:=hinv
 obtain ⟨u32,hinv⟩:=hinv
 obtain ⟨u33,hinv⟩:=hinv
 obtain ⟨u34,hinv⟩:=hinv
 obtain ⟨u35,hinv⟩:=hinv
 obtain ⟨u36,hinv⟩:=hinv
 obtain ⟨u37,hinv⟩:=hinv
 obtain ⟨u38,hinv⟩:=hinv
 obtain ⟨u39,hinv⟩:=hinv
 obtain ⟨u40,hinv⟩:=hinv
 obtain ⟨u41,hinv⟩:=hinv
 obtain ⟨u42,hinv⟩:=hinv
 obtain ⟨u43,hinv⟩:=hinv
 obtain ⟨u44,hinv⟩:=hinv
 obtain ⟨u45,hinv⟩:=hinv
 obtain ⟨u46,hinv⟩:=hinv
 obtain ⟨u47,hinv⟩:=hinv
 obtain ⟨u48,hinv⟩:=hinv
 obtain ⟨u49,hinv⟩:=hinv
 obtain ⟨u50,hinv⟩:=hinv
 obtain ⟨u51,hinv⟩:=hinv
 obtain ⟨u52,hinv⟩:=hinv
 obtain ⟨u53,hinv⟩:=hinv
 obtain ⟨u54,hinv⟩:=hinv
 obtain ⟨u55,hinv⟩:=hinv
 obtain ⟨u56,hinv⟩:=hinv
 obtain ⟨u57,hinv⟩:=hinv
 obtain ⟨u58,hinv⟩:=hinv
 obtain ⟨u59,hinv⟩:=hinv
 obtain ⟨u60,hinv⟩:=hinv
 obtain ⟨u61,hinv⟩:=hinv
 obtain ⟨u62,hinv⟩:=hinv
 obtain ⟨u63,hinv⟩:=hinv
 obtain ⟨u64,hinv⟩:=hinv
 obtain ⟨u65,hinv⟩:=hinv
 obtain ⟨u66,hinv⟩:=hinv
 obtain ⟨u67,hinv⟩:=hinv
 obtain ⟨u68,hinv⟩:=hinv
 obtain ⟨u69,hinv⟩:=hinv
 obtain ⟨u70,hinv⟩:=hinv
 obtain ⟨u71,hinv⟩:=hinv
 obtain ⟨u72,hinv⟩:=hinv
 obtain ⟨u73,hinv⟩:=hinv
 obtain ⟨u74,hinv⟩:=hinv
 obtain ⟨u75,hinv⟩:=hinv
 obtain ⟨u76,hinv⟩:=hinv
 obtain ⟨u77,hinv⟩:=hinv
 obtain ⟨u78,hinv⟩:=hinv
 obtain ⟨u79,hinv⟩:=hinv
 obtain ⟨u80,hinv⟩:=hinv
 obtain ⟨ds,hinv⟩:=hinv
 obtain ⟨⟨i,L,SA,n,sc,ks,T,Ds,him,hu16,hds,HVI,HKS,HZ⟩,ha⟩:=hinv
 subst ha hu16
 dsimp only
 clear HZ0
 have HZE:Hid (OW w ((boxO gr [.pointer (some ⟨q.g,0,none⟩)]::boxO gc [.int .i64 (L.length:Nat)]::boxO gf [.bool (fineB ix L)]::boxO gs [.slice SA n sc]::rowO 34 1 (.slice SA n sc) n (ks.map clipV)::T) ++ Ds.map dfrO) wr):=Lib.hid HZ.out
 by_cases hlt:i < m
 case neg =>
  have d1:decide ((i:Int) < (m:Int))=false:=decide_eq_false (by omega)
  have HVR:Hid (verR q.r=if fineR q.r L=true then (-1,0) else (-1,72)):=Lib.hid (HVI.out.done (by rw [HM.out.1];omega))
  have HFI:Hid (fineR q.r L=(decide (L.length=ct) && fineB ix L && rightR q.r (rowsE L))):=Lib.hid (by rw [fine_is,HCT.out,HIX.out])
  obtain ⟨fv,hfv⟩:∃ z,z=fineB ix L:=⟨_,rfl⟩
  obtain ⟨cn,hcn⟩:∃ z,z=L.length:=⟨_,rfl⟩
  obtain ⟨rb,hrb⟩:∃ z,z=rightR q.r (rowsE L):=⟨_,rfl⟩
  rw [← hfv,← hcn,← hrb] at HFI
  rw [← hfv,← hcn] at HZ HZE
  have HRB:=Lib.hid hrb.symm
  obtain ⟨fr,hfr⟩:∃ z,z=fineR q.r L:=⟨_,rfl⟩
  rw [← hfr] at HVR HFI
  have HBD:Hid (∀ z,OW w (boxO gr [.pointer (some ⟨q.g,0,none⟩)]::boxO gc [.int .i64 (cn:Nat)]::boxO gf [.bool fv]::boxO gs [.slice SA n sc]::rowO 34 1 (.slice SA n sc) n (ks.map clipV)::(T ++ Ds.map dfrO)) z→RBs z z.heap.size SA n (rowsE L)):=Lib.hid fun z hz=>seen_rbs hz (.tail _ (.tail _ (.tail _ (.tail _ (.head _))))) (HKS.out.2.2.more fun o ho => .tail _ (.tail _ (.tail _ (.tail _ (.tail _ (List.mem_append_left _ ho)))))) HKS.out.2.1
  have HNN:Hid (n≤9223372036854775807):=Lib.hid (by
   obtain ⟨_,_,hv,h1,h2,_⟩:=own_slice (HZ.out.row (i:=4) rfl)
   injection hv with _ h3 _
   have h4:maxLen=9223372036854775807:=rfl
   omega)
  subst hds
  clear hfv hcn hrb hfr HVI
  go_wp2_with fail
  cases fv with
  | false =>
   have HFR:Hid (fr=false):=Lib.hid (by rw [HFI.out,Bool.and_false];rfl)
   clear HZE
   refine lt_start [] (by kernel_rfl) ?_
   intro xd hd
   refine ⟨fun z=>OW w (boxO gr [.pointer (some ⟨q.g,0,none⟩)]::boxO gc [.int .i64 (cn:Nat)]::boxO gf [.bool false]::boxO gs [.slice SA n sc]::rowO 34 1 (.slice SA n sc) n (ks.map clipV)::(T ++ Ds.map dfrO)) z,?_⟩
   have HS:=Lib.hid (HZ.out.later hd)
   refine lq 0 [1,2,3,4,5,6,7,8,9,10,11,12,13,14,15,16] rfl (yi_cell rfl rfl rfl (fun w hS=>OW.cell hS (i:=2) (j:=0) rfl rfl) Tryz.isAgg4) HS.out ?_
   simp only [Act.put,ls]
   refine lp2 1 rfl (fun _=>HS.out) ?_
   simp only [Act.put,ls]
   refine lp2 2 rfl (fun _=>HS.out) ?_
   simp only [Act.put,ls]
   refine lk 3 rfl (fun _=>HS.out) ?_
   simp only [Act.put,ls]
   refine lk 4 rfl (fun _=>HS.out) ?_
   simp only [Act.put,ls]
   refine lk 5 rfl (fun _=>HS.out) ?_
   simp only [Act.put,ls]
   refine lk 6 rfl (fun _=>HS.out) ?_
   simp only [Act.put,ls]
   refine lk 7 rfl (fun _=>HS.out) ?_
   simp only [Act.put,ls]
   refine lk 8 rfl (fun _=>HS.out) ?_
   simp only [Act.put,ls]
   refine lk 9 rfl (fun _=>HS.out) ?_
   simp only [Act.put,ls]
   refine lp2 10 rfl (fun _=>HS.out) ?_
   simp only [Act.put,ls]
   refine lp2 11 rfl (fun _=>HS.out) ?_
   simp only [Act.put,ls]
   refine lk 12 rfl (fun _=>HS.out) ?_
   simp only [Act.put,ls]
   refine lk 13 rfl (fun _=>HS.out) ?_
   simp only [Act.put,ls]
   refine lk 14 rfl (fun _=>HS.out) ?_
   simp only [Act.put,ls]
   refine lk 15 rfl (fun _=>HS.out) ?_
   simp only [Act.put,ls]
   refine lp2 16 rfl (fun _=>HS.out) ?_
   simp only [Act.put,ls]
   refine lt_done (by kernel_rfl) ?_
   replace HZ:=Lib.hid HS.out
   clear HS
   go_wp2_with fail
   exact leaves_marks (os:=boxO gr [.pointer (some ⟨q.g,0,none⟩)]::boxO gc [.int .i64 (cn:Nat)]::boxO gf [.bool false]::boxO gs [.slice SA n sc]::rowO 34 1 (.slice SA n sc) n (ks.map clipV)::T) HZ.out fun z' hz'=>leaves0 (results_tmp2 rfl _ _ _) ⟨by rw [HVR.out,HFR.out];rfl,hz'.up⟩
  | true =>
   by_cases hc:cn=ct
   case neg =>
    have e1:((cn:Int) != (ct:Int))=true:=bne_iff_ne.2 (by omega)
    have e2:(cn != ct)=true:=bne_iff_ne.2 hc
    have HFR:Hid (fr=false):=Lib.hid (by rw [HFI.out,decide_eq_false hc];rfl)
    clear HZE hc
    refine lt_start [] (by kernel_rfl) ?_
    intro xd hd
    refine ⟨fun z=>OW w (boxO gr [.pointer (some ⟨q.g,0,none⟩)]::boxO gc [.int .i64 (cn:Nat)]::boxO gf [.bool true]::boxO gs [.slice SA n sc]::rowO 34 1 (.slice SA n sc) n (ks.map clipV)::(T ++ Ds.map dfrO)) z,?_⟩
    have HS:=Lib.hid (HZ.out.later hd)
    refine lq 0 [1,2,3,4,5,6,7,8,9,10,11,12,13,14,15,16] rfl (yi_cell rfl rfl rfl (fun w hS=>OW.cell hS (i:=2) (j:=0) rfl rfl) Tryz.isAgg4) HS.out ?_
    simp only [Act.put,ls]
    refine lp2 1 rfl (fun _=>HS.out) ?_
    simp only [Act.put,ls]
    refine lp2 2 rfl (fun _=>HS.out) ?_
    simp only [Act.put,ls]
    refine lq 3 [9,10,11,12,13,14,15,16] rfl (yi_cell rfl rfl rfl (fun w hS=>OW.cell hS (i:=1) (j:=0) rfl rfl) Tryz.isAgg3) HS.out ?_
    simp only [Act.put,ls]
    refine lq 4 [5,6,7,8,9,10,11,12,13,14,15,16] rfl (yi_cell rfl rfl rfl (fun w hS=>OW.cell hS (i:=0) (j:=0) rfl rfl) Tryz.isAgg41) HS.out ?_
    simp only [Act.put,ls]
    refine lp2 5 rfl (fun _=>HS.out) ?_
    simp only [Act.put,ls]
    refine lp2 6 rfl (fun _=>HS.out) ?_
    simp only [Act.put,ls]
    refine lp2 7 rfl (fun _=>HS.out) ?_
    simp only [Act.put,ls]
    refine lq 8 [9,10,11,12,13,14,15,16] rfl (yi_cell rfl rfl rfl (fun w hS=>HCN.out _ (OW.up hS)) Tryz.isAgg3) HS.out ?_
    simp only [Act.put,ls]
    refine lp2 9 rfl (fun _=>HS.out) ?_
    simp only [Act.put,ls]
    refine lp2 10 rfl (fun _=>HS.out) ?_
    simp only [Act.put,ls]
    refine lp2 11 rfl (fun _=>HS.out) ?_
    simp only [Act.put,ls]
    refine lk 12 rfl (fun _=>HS.out) ?_
    simp only [Act.put,ls]
    refine lk 13 rfl (fun _=>HS.out) ?_
    simp only [Act.put,ls]
    refine lk 14 rfl (fun _=>HS.out) ?_
    simp only [Act.put,ls]
    refine lk 15 rfl (fun _=>HS.out) ?_
    simp only [Act.put,ls]
    refine lp2 16 rfl (fun _=>HS.out) ?_
    simp only [Act.put,ls]
    refine lt_done (by kernel_rfl) ?_
    replace HZ:=Lib.hid HS.out
    clear HS
    go_wp2_with fail
    exact leaves_marks (os:=boxO gr [.pointer (some ⟨q.g,0,none⟩)]::boxO gc [.int .i64 (cn:Nat)]::boxO gf [.bool true]::boxO gs [.slice SA n sc]::rowO 34 1 (.slice SA n sc) n (ks.map clipV)::T) HZ.out fun z' hz'=>leaves0 (results_tmp2 rfl _ _ _) ⟨by rw [HVR.out,HFR.out];rfl,hz'.up⟩
   subst hc
   have e1:((cn:Int) != (cn:Int))=false:=by simp
   have e2:(cn != cn)=false:=by simp
   clear HZE
   cases rb with
   | false =>
    have HFR:Hid (fr=false):=Lib.hid (by rw [HFI.out,Bool.and_false])
    refine lt_start [] (by kernel_rfl) ?_
    intro xd hd
    refine ⟨fun z=>OW w (boxO gr [.pointer (some ⟨q.g,0,none⟩)]::boxO gc [.int .i64 (cn:Nat)]::boxO gf [.bool true]::boxO gs [.slice SA n sc]::rowO 34 1 (.slice SA n sc) n (ks.map clipV)::(T ++ Ds.map dfrO)) z,?_⟩
    have HS:=Lib.hid (HZ.out.later hd)
    refine lq 0 [1,2,3,4,5,6,7,8,9,10,11,12,13,14,15,16] rfl (yi_cell rfl rfl rfl (fun w hS=>OW.cell hS (i:=2) (j:=0) rfl rfl) Tryz.isAgg4) HS.out ?_
    simp only [Act.put,ls]
    refine lp2 1 rfl (fun _=>HS.out) ?_
    simp only [Act.put,ls]
    refine lp2 2 rfl (fun _=>HS.out) ?_
    simp only [Act.put,ls]
    refine lq 3 [9,10,11,12,13,14,15,16] rfl (yi_cell rfl rfl rfl (fun w hS=>OW.cell hS (i:=1) (j:=0) rfl rfl) Tryz.isAgg3) HS.out ?_
    simp only [Act.put,ls]
    refine lq 4 [5,6,7,8,9,10,11,12,13,14,15,16] rfl (yi_cell rfl rfl rfl (fun w hS=>OW.cell hS (i:=0) (j:=0) rfl rfl) Tryz.isAgg41) HS.out ?_
    simp only [Act.put,ls]
    refine lp2 5 rfl (fun _=>HS.out) ?_
    simp only [Act.put,ls]
    refine lp2 6 rfl (fun _=>HS.out) ?_
    simp only [Act.put,ls]
    refine lp2 7 rfl (fun _=>HS.out) ?_
    simp only [Act.put,ls]
    refine lq 8 [9,10,11,12,13,14,15,16] rfl (yi_cell rfl rfl rfl (fun w hS=>HCN.out _ (OW.up hS)) Tryz.isAgg3) HS.out ?_
    simp only [Act.put,ls]
    refine lp2 9 rfl (fun _=>HS.out) ?_
    simp only [Act.put,ls]
    refine lp2 10 rfl (fun _=>HS.out) ?_
    simp only [Act.put,ls]
    refine lp2 11 rfl (fun _=>HS.out) ?_
    simp only [Act.put,ls]
    refine lq 12 [14,15,16] rfl (yi_cell rfl rfl rfl (fun w hS=>OW.cell hS (i:=0) (j:=0) rfl rfl) Tryz.isAgg41) HS.out ?_
    simp only [Act.put,ls]
    refine lq 13 [14,15,16] rfl (yi_cell rfl rfl rfl (fun w hS=>OW.cell hS (i:=3) (j:=0) rfl rfl) Tryz.isAgg88) HS.out ?_
    simp only [Act.put,ls]
    refine lt_call 14 rfl (by kernel_rfl) rfl rfl ⟨_,Tryz.func88,by decide,by kernel_rfl⟩ [.pointer (some ⟨q.g,0,none⟩),.slice SA n sc] rfl ?_
    refine (right_any q _ (HRA.out _ HS.out.up) (rowsE L) SA n sc (HBD.out _ HS.out) HNN.out).mono ?_
    rw [HRB.out]
    rintro e y1 ⟨rfl,hb⟩
    replace HS:=Lib.hid (HS.out.later hb)
    clear hb
    refine ⟨_,rfl,fun _=>HS.out,?_⟩
    simp only [Act.put,ls]
    refine lp2 15 rfl (fun _=>HS.out) ?_
    simp only [Act.put,ls]
    refine lp2 16 rfl (fun _=>HS.out) ?_
    simp only [Act.put,ls]
    refine lt_done (by kernel_rfl) ?_
    replace HZ:=Lib.hid HS.out
    clear HS
    go_wp2_with fail
    exact leaves_marks (os:=boxO gr [.pointer (some ⟨q.g,0,none⟩)]::boxO gc [.int .i64 (cn:Nat)]::boxO gf [.bool true]::boxO gs [.slice SA n sc]::rowO 34 1 (.slice SA n sc) n (ks.map clipV)::T) HZ.out fun z' hz'=>leaves0 (results_tmp2 rfl _ _ _) ⟨by rw [HVR.out,HFR.out];rfl,hz'.up⟩
   | true =>
    have HFR:Hid (fr=true):=Lib.hid (by rw [HFI.out,decide_eq_true rfl];rfl)
    refine lt_start [] (by kernel_rfl) ?_
    intro xd hd
    refine ⟨fun z=>OW w (boxO gr [.pointer (some ⟨q.g,0,none⟩)]::boxO gc [.int .i64 (cn:Nat)]::boxO gf [.bool true]::boxO gs [.slice SA n sc]::rowO 34 1 (.slice SA n sc) n (ks.map clipV)::(T ++ Ds.map dfrO)) z,?_⟩
    have HS:=Lib.hid (HZ.out.later hd)
    refine lq 0 [1,2,3,4,5,6,7,8,9,10,11,12,13,14,15,16] rfl (yi_cell rfl rfl rfl (fun w hS=>OW.cell hS (i:=2) (j:=0) rfl rfl) Tryz.isAgg4) HS.out ?_
    simp only [Act.put,ls]
    refine lp2 1 rfl (fun _=>HS.out) ?_
    simp only [Act.put,ls]
    refine lp2 2 rfl (fun _=>HS.out) ?_
    simp only [Act.put,ls]
    refine lq 3 [9,10,11,12,13,14,15,16] rfl (yi_cell rfl rfl rfl (fun w hS=>OW.cell hS (i:=1) (j:=0) rfl rfl) Tryz.isAgg3) HS.out ?_
    simp only [Act.put,ls]
    refine lq 4 [5,6,7,8,9,10,11,12,13,14,15,16] rfl (yi_cell rfl rfl rfl (fun w hS=>OW.cell hS (i:=0) (j:=0) rfl rfl) Tryz.isAgg41) HS.out ?_
    simp only [Act.put,ls]
    refine lp2 5 rfl (fun _=>HS.out) ?_
    simp only [Act.put,ls]
    refine lp2 6 rfl (fun _=>HS.out) ?_
    simp only [Act.put,ls]
    refine lp2 7 rfl (fun _=>HS.out) ?_
    simp only [Act.put,ls]
    refine lq 8 [9,10,11,12,13,14,15,16] rfl (yi_cell rfl rfl rfl (fun w hS=>HCN.out _ (OW.up hS)) Tryz.isAgg3) HS.out ?_
    simp only [Act.put,ls]
    refine lp2 9 rfl (fun _=>HS.out) ?_
    simp only [Act.put,ls]
    refine lp2 10 rfl (fun _=>HS.out) ?_
    simp only [Act.put,ls]
    refine lp2 11 rfl (fun _=>HS.out) ?_
    simp only [Act.put,ls]
    refine lq 12 [14,15,16] rfl (yi_cell rfl rfl rfl (fun w hS=>OW.cell hS (i:=0) (j:=0) rfl rfl) Tryz.isAgg41) HS.out ?_
    simp only [Act.put,ls]
    refine lq 13 [14,15,16] rfl (yi_cell rfl rfl rfl (fun w hS=>OW.cell hS (i:=3) (j:=0) rfl rfl) Tryz.isAgg88) HS.out ?_
    simp only [Act.put,ls]
    refine lt_call 14 rfl (by kernel_rfl) rfl rfl ⟨_,Tryz.func88,by decide,by kernel_rfl⟩ [.pointer (some ⟨q.g,0,none⟩),.slice SA n sc] rfl ?_
    refine (right_any q _ (HRA.out _ HS.out.up) (rowsE L) SA n sc (HBD.out _ HS.out) HNN.out).mono ?_
    rw [HRB.out]
    rintro e y1 ⟨rfl,hb⟩
    replace HS:=Lib.hid (HS.out.later hb)
    clear hb
    refine ⟨_,rfl,fun _=>HS.out,?_⟩
    simp only [Act.put,ls]
    refine lp2 15 rfl (fun _=>HS.out) ?_
    simp only [Act.put,ls]
    refine lp2 16 rfl (fun _=>HS.out) ?_
    simp only [Act.put,ls]
    refine lt_done (by kernel_rfl) ?_
    replace HZ:=Lib.hid HS.out
    clear HS
    go_wp2_with fail
    exact leaves_marks (os:=boxO gr [.pointer (some ⟨q.g,0,none⟩)]::boxO gc [.int .i64 (cn:Nat)]::boxO gf [.bool true]::boxO gs [.slice SA n sc]::rowO 34 1 (.slice SA n sc) n (ks.map clipV)::T) HZ.out fun z' hz'=>leaves0 (results_tmp2 rfl _ _ _) ⟨by rw [HVR.out,HFR.out];rfl,hz'.up⟩
 have d1:decide ((i:Int) < (m:Int))=true:=decide_eq_true (by omega)
 obtain ⟨r,hr⟩:∃ r,q.rs[i]?=some r:=⟨_,List.getElem?_eq_getElem (by rw [HM.out.2];exact hlt)⟩
 have HR:=Lib.hid hr
 have HP:Hid (q.r.ps[i]?=some r.p):=Lib.hid (HRF.out.at_ hr)
 have HIN:Hid (PcIn 8 q.r.bytes.length r.p):=Lib.hid (HRF.out.pin hr)
 clear hr
 cases hbk:blkR q.r r.p with
 | none =>
  have HBK:=Lib.hid hbk
  have HVR:Hid (verR q.r=((i:Int),73)):=Lib.hid (HVI.out.bad HP.out hbk)
  subst hds
  clear hbk HVI
  go_wp2_with (first
   | (refine wpList_load_cell rfl 41 (.tmp 1) rfl rfl (HZE.out.cell (i:=0) (j:=0) rfl rfl) Tryz.isAgg41 ?_)
   | (go_at_call 85;go_must (refine (vload_no (HRA.out _ HZE.out.up) HR.out HIN.out (HTB.out _ HZE.out.up) HBK.out).mono ?_);rintro e x1 ⟨rfl,hb⟩;have HZ1:=Lib.hid (HZE.out.later hb);clear hb))
  exact leaves_marks HZ1.out fun z' hz'=>leaves0 (results_tmp2 rfl _ _ _) ⟨by rw [HVR.out];rfl,hz'.up⟩
 | some B =>
  have HBK:=Lib.hid hbk
  have HBF:=Lib.hid (blkR_facts hbk)
  have HBL:=Lib.hid (blkR_len hbk)
  have HVN:Hid (VerI q.r (i + 1) (L ++ B)):=Lib.hid (HVI.out.step HP.out hbk)
  have HLL:Hid (L.length≤16777216 * 131072):=Lib.hid (Nat.le_trans HVI.out.few (Nat.mul_le_mul_right _ (by omega)))
  clear hbk HVI HZE
  go_wp2_with (first
   | (refine wpList_load_cell rfl 41 (.tmp 1) rfl rfl (HZ.out.cell (i:=0) (j:=0) rfl rfl) Tryz.isAgg41 ?_)
   | (go_at_call 85;go_must (refine (vload_yes (HRA.out _ HZ.out.up) HR.out HIN.out (HTB.out _ HZ.out.up) HBK.out).mono ?_);rintro e x1 ⟨g,bo,rfl,hb5,hz⟩;have HB5:=Lib.hid hb5;have HA1:=Lib.hid (HZ.out.app hz);clear hb5 hz HZ)
   | (go_at_call 86;go_must (refine (all_new g _).mono ?_);rintro e x2 ⟨gb,rfl,hz⟩;have HA2:=Lib.hid (HA1.out.app hz);clear hz HA1))
  have HY:Hid (OW w (boxO gr [.pointer (some ⟨q.g,0,none⟩)]::boxO gc [.int .i64 (L.length:Nat)]::boxO gf [.bool (fineB ix L)]::boxO gs [.slice SA n sc]::rowO 34 1 (.slice SA n sc) n (ks.map clipV)::boxO gb [.pointer (some ⟨g,0,none⟩)]::(bo ++ (T ++ Ds.map dfrO))) x2):=Lib.hid (HA2.out.perm (ver_p5 [boxO gr [.pointer (some ⟨q.g,0,none⟩)],boxO gc [.int .i64 (L.length:Nat)],boxO gf [.bool (fineB ix L)],boxO gs [.slice SA n sc],rowO 34 1 (.slice SA n sc) n (ks.map clipV)] _ _ _))
  clear HA2
  obtain ⟨Ai,ci,hitr⟩:=HB5.out.itr (w0:=w) (z0:=x2) (r0:=boxO gr [.pointer (some ⟨q.g,0,none⟩)]::boxO gc [.int .i64 (L.length:Nat)]::boxO gf [.bool (fineB ix L)]::boxO gs [.slice SA n sc]::rowO 34 1 (.slice SA n sc) n (ks.map clipV)::boxO gb [.pointer (some ⟨g,0,none⟩)]::(T ++ Ds.map dfrO)) (HY.out.perm (ver_p7 [boxO gr [.pointer (some ⟨q.g,0,none⟩)],boxO gc [.int .i64 (L.length:Nat)],boxO gf [.bool (fineB ix L)],boxO gs [.slice SA n sc],rowO 34 1 (.slice SA n sc) n (ks.map clipV)] _ _ _))
  have HIT:=Lib.hid hitr
  clear hitr
  refine wp_range (w:=w) (L:=B) (Hand:=HandE) (Itr:=ItrB g gb Ai ci B) rfl (enters_of Tryz.func152 (by kernel_rfl) rfl) (all1_iter g gb Ai ci B (Nat.le_trans HBL.out (by decide)) (fun e he=>ok_lens (HBF.out.chk e he))) (fun _ _ _ _ h=>h.ok)
   (VrI q gr gc gf gs gb g ix L bo (Ds.map dfrO)) (fun _ _ _=>False) ?itr (os0:=boxO gr [.pointer (some ⟨q.g,0,none⟩)]::boxO gc [.int .i64 (L.length:Nat)]::boxO gf [.bool (fineB ix L)]::boxO gs [.slice SA n sc]::rowO 34 1 (.slice SA n sc) n (ks.map clipV)::boxO gb [.pointer (some ⟨g,0,none⟩)]::(bo ++ (T ++ Ds.map dfrO))) ⟨SA,n,sc,ks,T,by rw [List.append_nil];rfl,HKS.out.1,by rw [List.append_nil];exact HKS.out.2.1,HKS.out.2.2⟩ HY.out ?round ?done ?stop
  case itr =>
   rintro pre os es' z ⟨SA',n',sc',ks',T',rfl,_,_,_⟩ h
   exact ⟨h.cell (i:=5) (j:=0) rfl rfl,HIT.out w z _ (h.perm (ver_p8 [boxO gr [.pointer (some ⟨q.g,0,none⟩)],boxO gc [.int .i64 (L.length + pre.length:Nat)],boxO gf [.bool (fineB ix (L ++ pre))],boxO gs [.slice SA' n' sc'],rowO 34 1 (.slice SA' n' sc') n' (ks'.map clipV),boxO gb [.pointer (some ⟨g,0,none⟩)]] _ _ _))⟩
  case stop=>exact fun D c' pre os z _ h=>h.elim
  case done =>
   rintro D os z ⟨SA2,n2,sc2,ks2,T2,rfl,k1,k2,k3⟩ h
   have HZ2:Hid (OW w (boxO gr [.pointer (some ⟨q.g,0,none⟩)]::boxO gc [.int .i64 ((L ++ B).length:Nat)]::boxO gf [.bool (fineB ix (L ++ B))]::boxO gs [.slice SA2 n2 sc2]::rowO 34 1 (.slice SA2 n2 sc2) n2 (ks2.map clipV)::(T2 ++ (D::Ds).map dfrO)) z):=Lib.hid (by
    rw [List.length_append]
    exact OW.right (h.perm (ver_p4 [boxO gr [.pointer (some ⟨q.g,0,none⟩)],boxO gc [.int .i64 (L.length + B.length:Nat)],boxO gf [.bool (fineB ix (L ++ B))],boxO gs [.slice SA2 n2 sc2],rowO 34 1 (.slice SA2 n2 sc2) n2 (ks2.map clipV)] _ _ _ _ _)))
   have HK2:=Lib.hid (And.intro k1 (And.intro k2 k3))
   clear k1 k2 k3 h HY
   go_wp2_with fail
   refine ⟨?rel,?measure⟩
   case rel =>
    try dsimp only
    repeat apply Exists.intro
    refine ⟨?_,rfl⟩
    exact ⟨i + 1,L ++ B,SA2,n2,sc2,ks2,T2,D::Ds,by omega,by go_num,by first | rfl | (rw [hds];rfl),HVN,HK2,HZ2⟩
   case measure=>simp [intOf];omega
  case round =>
   rintro l p1 p2 pre e vs W0 W1 os _ hpre ⟨SA1,n1,sc1,ks1,T1,rfl,hk1,hk2,hk3⟩ h0 ⟨A3,B3,D3,rfl,ca,cb,cd,hh⟩
   have hke:=pre_at hpre
   have hpl:pre.length < B.length:=(List.getElem?_eq_some_iff.1 hke).1
   have HCK:=Lib.hid (HBF.out.chk e (List.mem_of_getElem? hke))
   have HLE:=Lib.hid (ok_lens HCK.out)
   have HCA:=Lib.hid ca
   have HKL:=Lib.hid hk1
   have HKR:=Lib.hid hk2
   have HKI:=Lib.hid hk3
   obtain ⟨cn,hcn⟩:∃ z,z=L.length + pre.length:=⟨_,rfl⟩
   obtain ⟨fv,hfv⟩:∃ z,z=fineB ix (L ++ pre):=⟨_,rfl⟩
   have HCN2:=Lib.hid hcn
   have HFV:=Lib.hid hfv
   have hcb:cn≤2300000000000:=by have:=HLL.out;have:=HBL.out;omega
   rw [← hcn,← hfv] at h0
   obtain ⟨bd,hbd⟩:∃ z,decide (e.seq≤(ix:Int) * 16 + 15)=z:=⟨_,rfl⟩
   obtain ⟨fv2,hf2⟩:∃ z,z=(fv && bd):=⟨_,rfl⟩
   have HF2:=Lib.hid hf2
   have HFN:Hid (fineB ix (L ++ (pre ++ [e]))=fv2):=Lib.hid (by rw [← List.append_assoc,fineB_snoc,← hfv,hbd,hf2])
   have HRN:=Lib.hid (rowsE_snoc (L ++ pre) e)
   have HV:=Lib.hid ((h0.app hh).perm (ver_p1 [boxO gr [.pointer (some ⟨q.g,0,none⟩)],boxO gc [.int .i64 (cn:Nat)],boxO gf [.bool fv],boxO gs [.slice SA1 n1 sc1],rowO 34 1 (.slice SA1 n1 sc1) n1 (ks1.map clipV)] (boxO gb [.pointer (some ⟨g,0,none⟩)]::(bo ++ (T1 ++ Ds.map dfrO))) p1 [clipO A3 e.row,clipO B3 e.qual,clipO D3 e.val]))
   clear hke hpre h0 hh ca cb cd hk1 hk2 hk3 hcn hfv hf2
   have hsem:∀ (ρ:Operand→Value) (o:Oper),(∀ c,o.op ≠ .defer c)→Oper.semAt (some l) ρ o=execOp ρ o:=fun ρ o h=>Oper.semAt_some l ρ o h
   unfold RoundOK
   rw [setP1]
   simp only [List.setIfInBounds_toArray,List.set_cons_zero,List.set_cons_succ]
   gi_wp2_with (first
    | (refine wlIn_one rfl ?_;refine wl_alloc rfl rfl [.slice none 0 0,.int .i64 0,.slice none 0 0,.int .i64 0,.int .i64 0,.int .i64 0,.slice none 0 0] (.inl (by kernel_rfl)) HV.out ?_;intro gy z1 hz _;have HV1:=Lib.hid (hz.perm (ver_p2 [boxO gr [.pointer (some ⟨q.g,0,none⟩)],boxO gc [.int .i64 (cn:Nat)],boxO gf [.bool fv],boxO gs [.slice SA1 n1 sc1],rowO 34 1 (.slice SA1 n1 sc1) n1 (ks1.map clipV)] _ p1 _));clear hz HV;refine wlIn_back ?_)
    | (refine wlIn_one rfl ?_;refine wl_put rfl (.tmp 9) (.tmp 27) rfl HV1.out 5 rfl rfl [.slice A3 e.row.length e.row.length,.int .i64 e.fam,.slice B3 e.qual.length e.qual.length,.int .i64 e.ts,.int .i64 e.seq,.int .i64 e.kind,.slice D3 e.val.length e.val.length] rfl rfl (by kernel_rfl) (by simp [Value.oneCell']) ?_;intro z2 hz _;have HV2:Hid (OW w ((boxO gr [.pointer (some ⟨q.g,0,none⟩)]::boxO gc [.int .i64 (cn:Nat)]::boxO gf [.bool fv]::boxO gs [.slice SA1 n1 sc1]::rowO 34 1 (.slice SA1 n1 sc1) n1 (ks1.map clipV)::boxO gy [.slice A3 e.row.length e.row.length,.int .i64 e.fam,.slice B3 e.qual.length e.qual.length,.int .i64 e.ts,.int .i64 e.seq,.int .i64 e.kind,.slice D3 e.val.length e.val.length]::clipO A3 e.row::clipO B3 e.qual::clipO D3 e.val::boxO gb [.pointer (some ⟨g,0,none⟩)]::(bo ++ (T1 ++ Ds.map dfrO))) ++ p1) z2):=Lib.hid hz;clear hz HV1;refine wlIn_back ?_))
   refine ⟨_,HV2.out,fun z3 hz3=>?_⟩
   have HW:Hid (OW w ((boxO gr [.pointer (some ⟨q.g,0,none⟩)]::boxO gc [.int .i64 (cn:Nat)]::boxO gf [.bool fv]::boxO gs [.slice SA1 n1 sc1]::rowO 34 1 (.slice SA1 n1 sc1) n1 (ks1.map clipV)::boxO gy [.slice A3 e.row.length e.row.length,.int .i64 e.fam,.slice B3 e.qual.length e.qual.length,.int .i64 e.ts,.int .i64 e.seq,.int .i64 e.kind,.slice D3 e.val.length e.val.length]::clipO A3 e.row::clipO B3 e.qual::clipO D3 e.val::boxO gb [.pointer (some ⟨g,0,none⟩)]::(bo ++ (T1 ++ Ds.map dfrO))) ++ p2) z3):=Lib.hid hz3
   clear hz3 HV2
   gi_wp2_with (first
    | (refine wlIn_one rfl ?_;refine wpList_load_cell rfl 3 (.tmp 4) rfl rfl (HW.out.cell (i:=1) (j:=0) rfl rfl) Tryz.isAgg3 ?_;refine wlIn_back ?_)
    | (refine wlIn_one rfl ?_;refine wl_put1 rfl (.tmp 4) (.tmp 29) rfl HW.out 1 rfl 0 rfl (by simp) (.int .i64 ((cn + 1:Nat):Int)) (by show Value.int .i64 _=_;go_num) (by kernel_rfl) rfl ?_;intro z4 hz _;have HW1:Hid (OW w ((boxO gr [.pointer (some ⟨q.g,0,none⟩)]::boxO gc [.int .i64 ((cn + 1:Nat):Int)]::boxO gf [.bool fv]::boxO gs [.slice SA1 n1 sc1]::rowO 34 1 (.slice SA1 n1 sc1) n1 (ks1.map clipV)::boxO gy [.slice A3 e.row.length e.row.length,.int .i64 e.fam,.slice B3 e.qual.length e.qual.length,.int .i64 e.ts,.int .i64 e.seq,.int .i64 e.kind,.slice D3 e.val.length e.val.length]::clipO A3 e.row::clipO B3 e.qual::clipO D3 e.val::boxO gb [.pointer (some ⟨g,0,none⟩)]::(bo ++ (T1 ++ Ds.map dfrO))) ++ p2) z4):=Lib.hid hz;clear hz HW;refine wlIn_back ?_))
   have HIB:Hid (Below w.heap.size w z4):=Lib.hid HW1.out.up
   cases fv
   case' false =>
    have HFF:Hid (fv2=false):=Lib.hid (by rw [HF2.out];rfl)
    refine lt_startIn [13] (by kernel_rfl) (by kernel_rfl) (fun _ _ h=>h) ?_
    intro xd hd
    refine ⟨fun z=>OW w ((boxO gr [.pointer (some ⟨q.g,0,none⟩)]::boxO gc [.int .i64 ((cn + 1:Nat):Int)]::boxO gf [.bool false]::boxO gs [.slice SA1 n1 sc1]::rowO 34 1 (.slice SA1 n1 sc1) n1 (ks1.map clipV)::boxO gy [.slice A3 e.row.length e.row.length,.int .i64 e.fam,.slice B3 e.qual.length e.qual.length,.int .i64 e.ts,.int .i64 e.seq,.int .i64 e.kind,.slice D3 e.val.length e.val.length]::clipO A3 e.row::clipO B3 e.qual::clipO D3 e.val::boxO gb [.pointer (some ⟨g,0,none⟩)]::(bo ++ (T1 ++ Ds.map dfrO))) ++ p2) z,?_⟩
    have HS:=Lib.hid (HW1.out.later hd)
    refine lq 0 [1,2,3,4,5,6,7,8,9,10,11,12,13] rfl (yi_cell rfl rfl rfl (fun w hS=>OW.cell hS (i:=2) (j:=0) rfl rfl) Tryz.isAgg4) HS.out ?_
    simp only [Act.put,ls]
    refine lp2 1 rfl (fun _=>HS.out) ?_
    simp only [Act.put,ls]
    refine lk 2 rfl (fun _=>HS.out) ?_
    simp only [Act.put,ls]
    refine lk 3 rfl (fun _=>HS.out) ?_
    simp only [Act.put,ls]
    refine lk 4 rfl (fun _=>HS.out) ?_
    simp only [Act.put,ls]
    refine lk 5 rfl (fun _=>HS.out) ?_
    simp only [Act.put,ls]
    refine lk 6 rfl (fun _=>HS.out) ?_
    simp only [Act.put,ls]
    refine lk 7 rfl (fun _=>HS.out) ?_
    simp only [Act.put,ls]
    refine lk 8 rfl (fun _=>HS.out) ?_
    simp only [Act.put,ls]
    refine lk 9 rfl (fun _=>HS.out) ?_
    simp only [Act.put,ls]
    refine lk 10 rfl (fun _=>HS.out) ?_
    simp only [Act.put,ls]
    refine lk 11 rfl (fun _=>HS.out) ?_
    simp only [Act.put,ls]
    refine lp2 12 rfl (fun _=>HS.out) ?_
    simp only [Act.put,ls]
    refine lt_end 13 rfl (by kernel_rfl) rfl (by kernel_rfl) ?_
    refine wpo_put1 rfl HS.out 2 rfl 0 rfl (by simp) (.bool fv2) (by show Value.bool _=_;rw [HFF.out]) (by kernel_rfl) rfl ?_
    intro z5 hz _
    have HW2:Hid (OW w ((boxO gr [.pointer (some ⟨q.g,0,none⟩)]::boxO gc [.int .i64 ((cn + 1:Nat):Int)]::boxO gf [.bool fv2]::boxO gs [.slice SA1 n1 sc1]::rowO 34 1 (.slice SA1 n1 sc1) n1 (ks1.map clipV)::boxO gy [.slice A3 e.row.length e.row.length,.int .i64 e.fam,.slice B3 e.qual.length e.qual.length,.int .i64 e.ts,.int .i64 e.seq,.int .i64 e.kind,.slice D3 e.val.length e.val.length]::clipO A3 e.row::clipO B3 e.qual::clipO D3 e.val::boxO gb [.pointer (some ⟨g,0,none⟩)]::(bo ++ (T1 ++ Ds.map dfrO))) ++ p2) z5):=Lib.hid hz
    clear hz HW1
    simp only [Act.put]
    refine lt_done (by kernel_rfl) ?_
    clear HS
   case' true =>
    have HFF:Hid (fv2=bd):=Lib.hid (by rw [HF2.out];rfl)
    have s1:IntKind.i64.wrap ((ix:Int) * 16)=(ix:Int) * 16:=i64_sum (by omega) (by omega)
    have s2:IntKind.i64.wrap ((ix:Int) * 16 + 15)=(ix:Int) * 16 + 15:=i64_sum (by omega) (by omega)
    refine lt_startIn [13] (by kernel_rfl) (by kernel_rfl) (fun _ _ h=>h) ?_
    intro xd hd
    refine ⟨fun z=>OW w ((boxO gr [.pointer (some ⟨q.g,0,none⟩)]::boxO gc [.int .i64 ((cn + 1:Nat):Int)]::boxO gf [.bool true]::boxO gs [.slice SA1 n1 sc1]::rowO 34 1 (.slice SA1 n1 sc1) n1 (ks1.map clipV)::boxO gy [.slice A3 e.row.length e.row.length,.int .i64 e.fam,.slice B3 e.qual.length e.qual.length,.int .i64 e.ts,.int .i64 e.seq,.int .i64 e.kind,.slice D3 e.val.length e.val.length]::clipO A3 e.row::clipO B3 e.qual::clipO D3 e.val::boxO gb [.pointer (some ⟨g,0,none⟩)]::(bo ++ (T1 ++ Ds.map dfrO))) ++ p2) z,?_⟩
    have HS:=Lib.hid (HW1.out.later hd)
    refine lq 0 [1,2,3,4,5,6,7,8,9,10,11,12,13] rfl (yi_cell rfl rfl rfl (fun w hS=>OW.cell hS (i:=2) (j:=0) rfl rfl) Tryz.isAgg4) HS.out ?_
    simp only [Act.put,ls]
    refine lp2 1 rfl (fun _=>HS.out) ?_
    simp only [Act.put,ls]
    refine lp2 2 rfl (fun _=>HS.out) ?_
    simp only [Act.put,ls]
    refine lq 3 [11,12,13] rfl (yi_cell rfl rfl rfl (fun w hS=>OW.cell hS (i:=5) (j:=4) rfl rfl) Tryz.isAgg3) HS.out ?_
    simp only [Act.put,ls]
    refine lq 4 [5,6,7,8,9,10,11,12,13] rfl (yi_cell rfl rfl rfl (fun w hS=>OW.cell hS (i:=0) (j:=0) rfl rfl) Tryz.isAgg41) HS.out ?_
    simp only [Act.put,ls]
    refine lp2 5 rfl (fun _=>HS.out) ?_
    simp only [Act.put,ls]
    refine lp2 6 rfl (fun _=>HS.out) ?_
    simp only [Act.put,ls]
    refine lp2 7 rfl (fun _=>HS.out) ?_
    simp only [Act.put,ls]
    refine lq 8 [9,10,11,12,13] rfl (yi_cell rfl rfl rfl (fun w hS=>HCI.out _ (OW.up hS)) Tryz.isAgg3) HS.out ?_
    simp only [Act.put,ls]
    refine lp2 9 rfl (fun _=>HS.out) ?_
    simp only [Act.put,ls]
    refine lp2 10 rfl (fun _=>HS.out) ?_
    simp only [Act.put,ls]
    refine lp2 11 rfl (fun _=>HS.out) ?_
    simp only [Act.put,ls]
    refine lp2 12 rfl (fun _=>HS.out) ?_
    simp only [Act.put,ls]
    refine lt_end 13 rfl (by kernel_rfl) rfl (by kernel_rfl) ?_
    refine wpo_put1 rfl HS.out 2 rfl 0 rfl (by simp) (.bool fv2) (by show Value.bool _=_;rw [HFF.out]) (by kernel_rfl) rfl ?_
    intro z5 hz _
    have HW2:Hid (OW w ((boxO gr [.pointer (some ⟨q.g,0,none⟩)]::boxO gc [.int .i64 ((cn + 1:Nat):Int)]::boxO gf [.bool fv2]::boxO gs [.slice SA1 n1 sc1]::rowO 34 1 (.slice SA1 n1 sc1) n1 (ks1.map clipV)::boxO gy [.slice A3 e.row.length e.row.length,.int .i64 e.fam,.slice B3 e.qual.length e.qual.length,.int .i64 e.ts,.int .i64 e.seq,.int .i64 e.kind,.slice D3 e.val.length e.val.length]::clipO A3 e.row::clipO B3 e.qual::clipO D3 e.val::boxO gb [.pointer (some ⟨g,0,none⟩)]::(bo ++ (T1 ++ Ds.map dfrO))) ++ p2) z5):=Lib.hid hz
    clear hz HW1
    simp only [Act.put]
    refine lt_done (by kernel_rfl) ?_
    clear HS
   all_goals clear HIB
   all_goals
    gi_wp2_with (refine wlIn_one rfl ?_;refine wpList_load_cell rfl 88 (.tmp 6) rfl rfl (HW2.out.cell (i:=3) (j:=0) rfl rfl) Tryz.isAgg88 ?_;refine wlIn_back ?_)
    have HN1:Hid (n1≤2300000000000):=Lib.hid (by
     have h1:=rowsE_le (L ++ pre)
     rw [← HKR.out,List.length_map,HKL.out,List.length_append,← HCN2.out] at h1
     omega)
    have HCE:Hid (L.length + (pre ++ [e]).length=cn + 1):=Lib.hid (by rw [List.length_append,HCN2.out];rfl)
    by_cases hn0:n1=0
    case pos =>
     have d0:((n1:Int) == 0)=true:=by rw [hn0];rfl
     have d1:(n1 == 0)=true:=by rw [hn0];rfl
     have HRS:Hid ((ks1 ++ [(A3,e.row)]).map (·.2)=rowsE (L ++ (pre ++ [e]))):=Lib.hid (by
      have hnil:ks1=[]:=List.eq_nil_of_length_eq_zero (by rw [HKL.out,hn0])
      have h0:rowsE (L ++ pre)=[]:=by rw [← HKR.out,hnil];rfl
      rw [← List.append_assoc,HRN.out,h0,hnil];rfl)
     clear hn0
     refine lt_startIn [] (by kernel_rfl) (by kernel_rfl) (fun _ _ h=>h) ?_
     intro xd hd
     refine ⟨fun z=>OW w ((boxO gr [.pointer (some ⟨q.g,0,none⟩)]::boxO gc [.int .i64 ((cn + 1:Nat):Int)]::boxO gf [.bool fv2]::boxO gs [.slice SA1 n1 sc1]::rowO 34 1 (.slice SA1 n1 sc1) n1 (ks1.map clipV)::boxO gy [.slice A3 e.row.length e.row.length,.int .i64 e.fam,.slice B3 e.qual.length e.qual.length,.int .i64 e.ts,.int .i64 e.seq,.int .i64 e.kind,.slice D3 e.val.length e.val.length]::clipO A3 e.row::clipO B3 e.qual::clipO D3 e.val::boxO gb [.pointer (some ⟨g,0,none⟩)]::(bo ++ (T1 ++ Ds.map dfrO))) ++ p2) z,?_⟩
     have HS:=Lib.hid (HW2.out.later hd)
     refine lp2 0 rfl (fun _=>HS.out) ?_
     simp only [Act.put,ls]
     refine lp2 1 rfl (fun _=>HS.out) ?_
     simp only [Act.put,ls]
     refine lp2 2 rfl (fun _=>HS.out) ?_
     simp only [Act.put,ls]
     refine lk 3 rfl (fun _=>HS.out) ?_
     simp only [Act.put,ls]
     refine lk 4 rfl (fun _=>HS.out) ?_
     simp only [Act.put,ls]
     refine lk 5 rfl (fun _=>HS.out) ?_
     simp only [Act.put,ls]
     refine lk 6 rfl (fun _=>HS.out) ?_
     simp only [Act.put,ls]
     refine lk 7 rfl (fun _=>HS.out) ?_
     simp only [Act.put,ls]
     refine lk 8 rfl (fun _=>HS.out) ?_
     simp only [Act.put,ls]
     refine lk 9 rfl (fun _=>HS.out) ?_
     simp only [Act.put,ls]
     refine lk 10 rfl (fun _=>HS.out) ?_
     simp only [Act.put,ls]
     refine lk 11 rfl (fun _=>HS.out) ?_
     simp only [Act.put,ls]
     refine lp2 12 rfl (fun _=>HS.out) ?_
     simp only [Act.put,ls]
     refine lt_done (by kernel_rfl) ?_
     replace HW2:=Lib.hid HS.out
     clear HS
     gi_wp2_with (first
      | (refine wlIn_one rfl ?_;refine wpList_load_cell rfl 88 (.tmp 6) rfl rfl (HW2.out.cell (i:=3) (j:=0) rfl rfl) Tryz.isAgg88 ?_;refine wlIn_back ?_)
      | (refine wlIn_one rfl ?_;refine wpList_load_cell rfl 34 (.tmp 59) rfl rfl (HW2.out.cell (i:=5) (j:=0) rfl rfl) Tryz.isAgg34 ?_;refine wlIn_back ?_)
      | (refine wlIn_one rfl ?_;refine wl_build rfl #[(0,.tmp 60)] rfl #[.slice A3 e.row.length e.row.length] Tryz.kssF (.slice none 0 0) (by kernel_rfl) (by decide) (by decide) (by decide) rfl (by first | rfl | kernel_rfl) HW2.out ?_;intro gn y1 hz _;have HW3:Hid (OW w (((boxO gr [.pointer (some ⟨q.g,0,none⟩)]::boxO gc [.int .i64 ((cn + 1:Nat):Int)]::boxO gf [.bool fv2]::boxO gs [.slice SA1 n1 sc1]::rowO 34 1 (.slice SA1 n1 sc1) n1 (ks1.map clipV)::boxO gy [.slice A3 e.row.length e.row.length,.int .i64 e.fam,.slice B3 e.qual.length e.qual.length,.int .i64 e.ts,.int .i64 e.seq,.int .i64 e.kind,.slice D3 e.val.length e.val.length]::clipO A3 e.row::clipO B3 e.qual::clipO D3 e.val::boxO gb [.pointer (some ⟨g,0,none⟩)]::(bo ++ (T1 ++ Ds.map dfrO))) ++ p2) ++ [rowO 34 1 (.slice (some ⟨gn,0,none⟩) 1 1) 1 [.slice A3 e.row.length e.row.length]]) y1):=Lib.hid hz;clear hz HW2;refine wlIn_back ?_)
      | (refine wlIn_one rfl ?_;refine wl_append rfl (.tmp 58) (.tmp 61) rfl Tryz.kssF HW3.out 4 rfl rfl _ (some ⟨gn,0,none⟩) 1 1 [.slice A3 e.row.length e.row.length] rfl (Reads.own (HW3.out.rowm (List.mem_append_right _ (List.mem_singleton.2 rfl)))) (by simp [Value.oneCell']) (by have:=HN1.out;unfold maxLen;omega) (by have:=HN1.out;omega) ?_;intro SA5 sc5 y2 hz _;have HW4:=Lib.hid hz;clear hz HW3;refine wlIn_back ?_)
      | (refine wlIn_one rfl ?_;refine wl_put1 rfl (.tmp 6) (.tmp 62) rfl HW4.out 3 rfl 0 rfl (by simp) _ rfl (by kernel_rfl) rfl ?_;intro y3 hz _;have HW5:Hid (OW w (((boxO gr [.pointer (some ⟨q.g,0,none⟩)]::boxO gc [.int .i64 ((cn + 1:Nat):Int)]::boxO gf [.bool fv2]::boxO gs [.slice SA5 (n1 + 1) sc5]::rowO 34 1 (.slice SA5 (n1 + 1) sc5) (n1 + 1) (ks1.map clipV ++ [.slice A3 e.row.length e.row.length])::boxO gy [.slice A3 e.row.length e.row.length,.int .i64 e.fam,.slice B3 e.qual.length e.qual.length,.int .i64 e.ts,.int .i64 e.seq,.int .i64 e.kind,.slice D3 e.val.length e.val.length]::clipO A3 e.row::clipO B3 e.qual::clipO D3 e.val::boxO gb [.pointer (some ⟨g,0,none⟩)]::(bo ++ (T1 ++ Ds.map dfrO))) ++ p2) ++ [rowO 34 1 (.slice (some ⟨gn,0,none⟩) 1 1) 1 [.slice A3 e.row.length e.row.length]]) y3):=Lib.hid hz;clear hz HW4;refine wlIn_back ?_))
     gi_wp2
     have HF:OW w ((boxO gr [.pointer (some ⟨q.g,0,none⟩)]::boxO gc [.int .i64 ((cn + 1:Nat):Int)]::boxO gf [.bool fv2]::boxO gs [.slice SA5 (n1 + 1) sc5]::rowO 34 1 (.slice SA5 (n1 + 1) sc5) (n1 + 1) (ks1.map clipV ++ [.slice A3 e.row.length e.row.length])::boxO gb [.pointer (some ⟨g,0,none⟩)]::(bo ++ ((clipO A3 e.row::T1) ++ Ds.map dfrO))) ++ p2) _:=(((HW5.out.left.erase 5).erase 6).erase 6).perm (ver_p3 [boxO gr [.pointer (some ⟨q.g,0,none⟩)],boxO gc [.int .i64 ((cn + 1:Nat):Int)],boxO gf [.bool fv2],boxO gs [.slice SA5 (n1 + 1) sc5],rowO 34 1 (.slice SA5 (n1 + 1) sc5) (n1 + 1) (ks1.map clipV ++ [.slice A3 e.row.length e.row.length])] _ _ _ _ _ _)
     exact ⟨_,⟨SA5,n1 + 1,sc5,ks1 ++ [(A3,e.row)],clipO A3 e.row::T1,rfl,by rw [List.length_append,HKL.out];rfl,HRS.out,(HKI.out.more fun o ho => .tail _ ho).snoc HCA.out (Nat.le_trans HLE.out.1 (by decide)) (.head _)⟩,by rw [HCE.out,HFN.out,List.map_append];exact HF⟩
    case neg =>
     have hn1:0 < n1:=Nat.pos_of_ne_zero hn0
     have d0:((n1:Int) == 0)=false:=beq_eq_false_iff_ne.2 (by omega)
     have d1:(n1 == 0)=false:=beq_eq_false_iff_ne.2 hn0
     obtain ⟨kl,hk1,hkm,hlast⟩:=last_at HKL.out hn1
     obtain ⟨mg,mcap,hv,_⟩:=own_form (HW2.out.row (i:=4) rfl) hn1
     injection hv with hv _ hcp
     subst hv
     subst hcp
     obtain ⟨k1,hk1n⟩:∃ z,z=n1 - 1:=⟨_,rfl⟩
     rw [← hk1n] at hk1
     have q1:(n1:Int) - 1=(k1:Int):=by omega
     have q2:(0:Int)≤(k1:Int):=by omega
     have q3:(k1:Int) < (n1:Int):=by omega
     have q4:IntKind.i64.wrap (k1:Int)=(k1:Int):=i64_sum (by omega) (by have:=HN1.out;omega)
     have HCC:Hid (∀ z,OW w ((boxO gr [.pointer (some ⟨q.g,0,none⟩)]::boxO gc [.int .i64 ((cn + 1:Nat):Int)]::boxO gf [.bool fv2]::boxO gs [.slice (some ⟨mg,0,none⟩) n1 sc1]::rowO 34 1 (.slice (some ⟨mg,0,none⟩) n1 sc1) n1 (ks1.map clipV)::boxO gy [.slice A3 e.row.length e.row.length,.int .i64 e.fam,.slice B3 e.qual.length e.qual.length,.int .i64 e.ts,.int .i64 e.seq,.int .i64 e.kind,.slice D3 e.val.length e.val.length]::clipO A3 e.row::clipO B3 e.qual::clipO D3 e.val::boxO gb [.pointer (some ⟨g,0,none⟩)]::(bo ++ (T1 ++ Ds.map dfrO))) ++ p2) z→z.cell? ⟨mg,k1,none⟩=some (.slice kl.1 kl.2.length kl.2.length)):=Lib.hid fun z hz=>(World.ownsRow.cellAt (OW.row hz (i:=4) rfl) k1 (by show k1 < n1 * 1;omega)).trans (by rw [List.getElem?_map,hk1];rfl)
     have HKK:=Lib.hid (HKI.out kl hkm)
     have hkrow:=HLE.out.1
     obtain ⟨bq,hbq⟩:∃ z,(kl.2 == e.row)=z:=⟨_,rfl⟩
     have HBQ:=Lib.hid hbq
     have HRQ:Hid (rowsE (L ++ (pre ++ [e]))=if bq=true then rowsE (L ++ pre) else rowsE (L ++ pre) ++ [e.row]):=Lib.hid (by
      rw [← List.append_assoc,HRN.out]
      unfold rowStep
      rw [← HKR.out,hlast,← hbq]
      by_cases h:kl.2=e.row
      ·rw [if_pos (by rw [h]),if_pos (by rw [h];simp)]
      ·rw [if_neg (fun h1=>h (by injection h1)),if_neg (by simpa using h)])
     clear hk1 hkm hlast hk1n hbq hn0
     cases bq with
     | true =>
      have HRS:Hid (ks1.map (·.2)=rowsE (L ++ (pre ++ [e]))):=Lib.hid (by rw [HRQ.out,if_pos rfl,HKR.out])
      refine lt_startIn [] (by kernel_rfl) (by kernel_rfl) (fun _ _ h=>h) ?_
      intro xd hd
      refine ⟨fun z=>OW w ((boxO gr [.pointer (some ⟨q.g,0,none⟩)]::boxO gc [.int .i64 ((cn + 1:Nat):Int)]::boxO gf [.bool fv2]::boxO gs [.slice (some ⟨mg,0,none⟩) n1 sc1]::rowO 34 1 (.slice (some ⟨mg,0,none⟩) n1 sc1) n1 (ks1.map clipV)::boxO gy [.slice A3 e.row.length e.row.length,.int .i64 e.fam,.slice B3 e.qual.length e.qual.length,.int .i64 e.ts,.int .i64 e.seq,.int .i64 e.kind,.slice D3 e.val.length e.val.length]::clipO A3 e.row::clipO B3 e.qual::clipO D3 e.val::boxO gb [.pointer (some ⟨g,0,none⟩)]::(bo ++ (T1 ++ Ds.map dfrO))) ++ p2) z,?_⟩
      have HS:=Lib.hid (HW2.out.later hd)
      refine lp2 0 rfl (fun _=>HS.out) ?_
      simp only [Act.put,ls]
      refine lp2 1 rfl (fun _=>HS.out) ?_
      simp only [Act.put,ls]
      refine lp2 2 rfl (fun _=>HS.out) ?_
      simp only [Act.put,ls]
      refine lq 3 [6,7,10,11,12] rfl (yi_cell rfl rfl rfl (fun w hS=>OW.cell hS (i:=3) (j:=0) rfl rfl) Tryz.isAgg88) HS.out ?_
      simp only [Act.put,ls]
      refine lp2 4 rfl (fun _=>HS.out) ?_
      simp only [Act.put,ls]
      refine lp2 5 rfl (fun _=>HS.out) ?_
      simp only [Act.put,ls]
      refine lp2 6 rfl (fun _=>HS.out) ?_
      simp only [Act.put,ls]
      refine lq 7 [10,11,12] rfl (yi_cell rfl rfl rfl (fun w hS=>HCC.out _ hS) Tryz.isAgg34) HS.out ?_
      simp only [Act.put,ls]
      refine lp2 8 rfl (fun _=>HS.out) ?_
      simp only [Act.put,ls]
      refine lq 9 [10,11,12] rfl (yi_cell rfl rfl rfl (fun w hS=>OW.cell hS (i:=5) (j:=0) rfl rfl) Tryz.isAgg34) HS.out ?_
      simp only [Act.put,ls]
      refine lt_call 10 rfl (by kernel_rfl) rfl rfl ⟨_,Tryz.func87,by decide,by kernel_rfl⟩ [.slice kl.1 kl.2.length kl.2.length,.slice A3 e.row.length e.row.length] rfl ?_
      refine (equal_any kl.2 e.row kl.1 A3 kl.2.length kl.2.length e.row.length e.row.length _ (HS.out.clipSlm HKK.out.1.1 (List.mem_append_left _ (.tail _ (.tail _ (.tail _ (.tail _ (.tail _ (.tail _ (.tail _ (.tail _ (.tail _ (.tail _ (List.mem_append_right _ (List.mem_append_left _ HKK.out.2))))))))))))) rfl HKK.out.1.2).rb (HS.out.clipSl HCA.out (i:=6) rfl rfl (by omega)).rb).mono ?_
      rw [HBQ.out]
      rintro e' y0 ⟨rfl,rfl⟩
      refine ⟨_,rfl,fun _=>HS.out,?_⟩
      simp only [Act.put,ls]
      refine lp2 11 rfl (fun _=>HS.out) ?_
      simp only [Act.put,ls]
      refine lp2 12 rfl (fun _=>HS.out) ?_
      simp only [Act.put,ls]
      refine lt_done (by kernel_rfl) ?_
      replace HW2:=Lib.hid HS.out
      clear HS
      gi_wp2
      have HF:OW w ((boxO gr [.pointer (some ⟨q.g,0,none⟩)]::boxO gc [.int .i64 ((cn + 1:Nat):Int)]::boxO gf [.bool fv2]::boxO gs [.slice (some ⟨mg,0,none⟩) n1 sc1]::rowO 34 1 (.slice (some ⟨mg,0,none⟩) n1 sc1) n1 (ks1.map clipV)::boxO gb [.pointer (some ⟨g,0,none⟩)]::(bo ++ (T1 ++ Ds.map dfrO))) ++ p2) _:=(((HW2.out.erase 5).erase 5).erase 5).erase 5
      exact ⟨_,⟨some ⟨mg,0,none⟩,n1,sc1,ks1,T1,rfl,HKL.out,HRS.out,HKI.out⟩,by rw [HCE.out,HFN.out];exact HF⟩
     | false =>
      have HRS:Hid ((ks1 ++ [(A3,e.row)]).map (·.2)=rowsE (L ++ (pre ++ [e]))):=Lib.hid (by rw [HRQ.out,if_neg (by decide),List.map_append,HKR.out];rfl)
      refine lt_startIn [] (by kernel_rfl) (by kernel_rfl) (fun _ _ h=>h) ?_
      intro xd hd
      refine ⟨fun z=>OW w ((boxO gr [.pointer (some ⟨q.g,0,none⟩)]::boxO gc [.int .i64 ((cn + 1:Nat):Int)]::boxO gf [.bool fv2]::boxO gs [.slice (some ⟨mg,0,none⟩) n1 sc1]::rowO 34 1 (.slice (some ⟨mg,0,none⟩) n1 sc1) n1 (ks1.map clipV)::boxO gy [.slice A3 e.row.length e.row.length,.int .i64 e.fam,.slice B3 e.qual.length e.qual.length,.int .i64 e.ts,.int .i64 e.seq,.int .i64 e.kind,.slice D3 e.val.length e.val.length]::clipO A3 e.row::clipO B3 e.qual::clipO D3 e.val::boxO gb [.pointer (some ⟨g,0,none⟩)]::(bo ++ (T1 ++ Ds.map dfrO))) ++ p2) z,?_⟩
      have HS:=Lib.hid (HW2.out.later hd)
      refine lp2 0 rfl (fun _=>HS.out) ?_
      simp only [Act.put,ls]
      refine lp2 1 rfl (fun _=>HS.out) ?_
      simp only [Act.put,ls]
      refine lp2 2 rfl (fun _=>HS.out) ?_
      simp only [Act.put,ls]
      refine lq 3 [6,7,10,11,12] rfl (yi_cell rfl rfl rfl (fun w hS=>OW.cell hS (i:=3) (j:=0) rfl rfl) Tryz.isAgg88) HS.out ?_
      simp only [Act.put,ls]
      refine lp2 4 rfl (fun _=>HS.out) ?_
      simp only [Act.put,ls]
      refine lp2 5 rfl (fun _=>HS.out) ?_
      simp only [Act.put,ls]
      refine lp2 6 rfl (fun _=>HS.out) ?_
      simp only [Act.put,ls]
      refine lq 7 [10,11,12] rfl (yi_cell rfl rfl rfl (fun w hS=>HCC.out _ hS) Tryz.isAgg34) HS.out ?_
      simp only [Act.put,ls]
      refine lp2 8 rfl (fun _=>HS.out) ?_
      simp only [Act.put,ls]
      refine lq 9 [10,11,12] rfl (yi_cell rfl rfl rfl (fun w hS=>OW.cell hS (i:=5) (j:=0) rfl rfl) Tryz.isAgg34) HS.out ?_
      simp only [Act.put,ls]
      refine lt_call 10 rfl (by kernel_rfl) rfl rfl ⟨_,Tryz.func87,by decide,by kernel_rfl⟩ [.slice kl.1 kl.2.length kl.2.length,.slice A3 e.row.length e.row.length] rfl ?_
      refine (equal_any kl.2 e.row kl.1 A3 kl.2.length kl.2.length e.row.length e.row.length _ (HS.out.clipSlm HKK.out.1.1 (List.mem_append_left _ (.tail _ (.tail _ (.tail _ (.tail _ (.tail _ (.tail _ (.tail _ (.tail _ (.tail _ (.tail _ (List.mem_append_right _ (List.mem_append_left _ HKK.out.2))))))))))))) rfl HKK.out.1.2).rb (HS.out.clipSl HCA.out (i:=6) rfl rfl (by omega)).rb).mono ?_
      rw [HBQ.out]
      rintro e' y0 ⟨rfl,rfl⟩
      refine ⟨_,rfl,fun _=>HS.out,?_⟩
      simp only [Act.put,ls]
      refine lp2 11 rfl (fun _=>HS.out) ?_
      simp only [Act.put,ls]
      refine lp2 12 rfl (fun _=>HS.out) ?_
      simp only [Act.put,ls]
      refine lt_done (by kernel_rfl) ?_
      replace HW2:=Lib.hid HS.out
      clear HS
      gi_wp2_with (first
       | (refine wlIn_one rfl ?_;refine wpList_load_cell rfl 88 (.tmp 6) rfl rfl (HW2.out.cell (i:=3) (j:=0) rfl rfl) Tryz.isAgg88 ?_;refine wlIn_back ?_)
       | (refine wlIn_one rfl ?_;refine wpList_load_cell rfl 34 (.tmp 59) rfl rfl (HW2.out.cell (i:=5) (j:=0) rfl rfl) Tryz.isAgg34 ?_;refine wlIn_back ?_)
       | (refine wlIn_one rfl ?_;refine wl_build rfl #[(0,.tmp 60)] rfl #[.slice A3 e.row.length e.row.length] Tryz.kssF (.slice none 0 0) (by kernel_rfl) (by decide) (by decide) (by decide) rfl (by first | rfl | kernel_rfl) HW2.out ?_;intro gn y1 hz _;have HW3:Hid (OW w (((boxO gr [.pointer (some ⟨q.g,0,none⟩)]::boxO gc [.int .i64 ((cn + 1:Nat):Int)]::boxO gf [.bool fv2]::boxO gs [.slice (some ⟨mg,0,none⟩) n1 sc1]::rowO 34 1 (.slice (some ⟨mg,0,none⟩) n1 sc1) n1 (ks1.map clipV)::boxO gy [.slice A3 e.row.length e.row.length,.int .i64 e.fam,.slice B3 e.qual.length e.qual.length,.int .i64 e.ts,.int .i64 e.seq,.int .i64 e.kind,.slice D3 e.val.length e.val.length]::clipO A3 e.row::clipO B3 e.qual::clipO D3 e.val::boxO gb [.pointer (some ⟨g,0,none⟩)]::(bo ++ (T1 ++ Ds.map dfrO))) ++ p2) ++ [rowO 34 1 (.slice (some ⟨gn,0,none⟩) 1 1) 1 [.slice A3 e.row.length e.row.length]]) y1):=Lib.hid hz;clear hz HW2;refine wlIn_back ?_)
       | (refine wlIn_one rfl ?_;refine wl_append rfl (.tmp 58) (.tmp 61) rfl Tryz.kssF HW3.out 4 rfl rfl _ (some ⟨gn,0,none⟩) 1 1 [.slice A3 e.row.length e.row.length] rfl (Reads.own (HW3.out.rowm (List.mem_append_right _ (List.mem_singleton.2 rfl)))) (by simp [Value.oneCell']) (by have:=HN1.out;unfold maxLen;omega) (by have:=HN1.out;omega) ?_;intro SA5 sc5 y2 hz _;have HW4:=Lib.hid hz;clear hz HW3;refine wlIn_back ?_)
       | (refine wlIn_one rfl ?_;refine wl_put1 rfl (.tmp 6) (.tmp 62) rfl HW4.out 3 rfl 0 rfl (by simp) _ rfl (by kernel_rfl) rfl ?_;intro y3 hz _;have HW5:Hid (OW w (((boxO gr [.pointer (some ⟨q.g,0,none⟩)]::boxO gc [.int .i64 ((cn + 1:Nat):Int)]::boxO gf [.bool fv2]::boxO gs [.slice SA5 (n1 + 1) sc5]::rowO 34 1 (.slice SA5 (n1 + 1) sc5) (n1 + 1) (ks1.map clipV ++ [.slice A3 e.row.length e.row.length])::boxO gy [.slice A3 e.row.length e.row.length,.int .i64 e.fam,.slice B3 e.qual.length e.qual.length,.int .i64 e.ts,.int .i64 e.seq,.int .i64 e.kind,.slice D3 e.val.length e.val.length]::clipO A3 e.row::clipO B3 e.qual::clipO D3 e.val::boxO gb [.pointer (some ⟨g,0,none⟩)]::(bo ++ (T1 ++ Ds.map dfrO))) ++ p2) ++ [rowO 34 1 (.slice (some ⟨gn,0,none⟩) 1 1) 1 [.slice A3 e.row.length e.row.length]]) y3):=Lib.hid hz;clear hz HW4;refine wlIn_back ?_))
      gi_wp2
      have HF:OW w ((boxO gr [.pointer (some ⟨q.g,0,none⟩)]::boxO gc [.int .i64 ((cn + 1:Nat):Int)]::boxO gf [.bool fv2]::boxO gs [.slice SA5 (n1 + 1) sc5]::rowO 34 1 (.slice SA5 (n1 + 1) sc5) (n1 + 1) (ks1.map clipV ++ [.slice A3 e.row.length e.row.length])::boxO gb [.pointer (some ⟨g,0,none⟩)]::(bo ++ ((clipO A3 e.row::T1) ++ Ds.map dfrO))) ++ p2) _:=(((HW5.out.left.erase 5).erase 6).erase 6).perm (ver_p3 [boxO gr [.pointer (some ⟨q.g,0,none⟩)],boxO gc [.int .i64 ((cn + 1:Nat):Int)],boxO gf [.bool fv2],boxO gs [.slice SA5 (n1 + 1) sc5],rowO 34 1 (.slice SA5 (n1 + 1) sc5) (n1 + 1) (ks1.map clipV ++ [.slice A3 e.row.length e.row.length])] _ _ _ _ _ _)
      exact ⟨_,⟨SA5,n1 + 1,sc5,ks1 ++ [(A3,e.row)],clipO A3 e.row::T1,rfl,by rw [List.length_append,HKL.out];rfl,HRS.out,(HKI.out.more fun o ho => .tail _ ho).snoc HCA.out (Nat.le_trans HLE.out.1 (by decide)) (.head _)⟩,by rw [HCE.out,HFN.out,List.map_append];exact HF⟩
end Go.Proofs.YtfdbcfaeiglbeaaGreatDoor
