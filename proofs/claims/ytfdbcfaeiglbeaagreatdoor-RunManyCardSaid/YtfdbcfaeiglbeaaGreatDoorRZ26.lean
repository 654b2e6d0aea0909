/-
 RunW10.
-/
import Derived.Test.YtfdbcfaeiglbeaaGreatDoorRZ25
namespace Go.Proofs.YtfdbcfaeiglbeaaGreatDoor
open Go.RowKit
structure CurR where
  g:Nat
  pt:Nat
  nv:Value
  nL:List Ent
  no:List Ob
  at':Nat
  sk:Bool
  tg:Ent
  TA:Option Addr
  tc:Nat
  TB:Option Addr
  td:Nat
  er:Int
def CurR.cells (c:CurR) (q:RunRec):List Value:=[.pointer (some ⟨q.g,0,none⟩),.int .i64 c.pt,c.nv,.int .i64 c.at',.bool c.sk,.slice c.TA c.tg.row.length c.tc,.int .i64 c.tg.fam,.slice c.TB c.tg.qual.length c.td,.int .i64 c.tg.ts,.int .i64 c.tg.seq,.int .i64 c.tg.kind,.slice none 0 0,.int .i64 c.er]
def CurR.obs (c:CurR) (q:RunRec):List Ob:=boxO c.g (c.cells q)::bytO 5 (c.TA,c.tc,c.tg.row)::bytO 5 (c.TB,c.td,c.tg.qual)::c.no
def NowO (nv:Value) (nL:List Ent) (no:List Ob):Prop:=(nv = .pointer none∧nL=[]∧no=[])∨∃ bg R,nv = .pointer (some ⟨bg,0,none⟩)∧Bk5 R nL bg no
structure CurR.Ok (c:CurR) (r:RunR):Prop where
  now:NowO c.nv c.nL c.no
  pt:c.pt≤r.ps.length
  at_:c.at'≤c.nL.length
  skp:c.sk=true→c.at'=c.nL.length
  chk:∀ e,e ∈ c.nL→checkE e=0
  len:c.nL.length≤131072
  val:c.tg.val=[]
  er:c.er=0∨c.er=73
def skO (sk:Bool) (tg:Ent):Option Ent:=if sk=true then some tg else none
def CurR.rest (c:CurR) (r:RunR):List Ent×Bool:=if c.er ≠ 0 then ([],false) else (c.nL.drop c.at' ++ (restF r (skO c.sk c.tg) (r.ps.drop c.pt)).1,(restF r (skO c.sk c.tg) (r.ps.drop c.pt)).2)
def NextP (q:RunRec) (c:CurR) (w:World) (os:List Ob) (e:Ending) (z:World):Prop :=
 ∃ c':CurR,c'.g=c.g∧c'.Ok q.r∧((∃ (y:Ent) (L':List Ent) (b:Bool) (A B D:Option Addr),c.rest q.r=(y::L',b)∧c'.rest q.r=(L',b)∧e = .returned (.tuple #[entV A y.row.length y.row.length B y.qual.length y.qual.length D y.val.length y.val.length y,.bool true,.int .i64 0])∧CAt A y.row∧CAt B y.qual∧CAt D y.val∧checkE y=0∧OW w (clipO A y.row::clipO B y.qual::clipO D y.val::(c'.obs q ++ os)) z) ∨
  (∃ b:Bool,c.rest q.r=([],b)∧c'.rest q.r=([],b)∧e = .returned (.tuple #[entV none 0 0 none 0 0 none 0 0 noEnt,.bool false,.int .i64 (if b then 0 else 73)])∧OW w (c'.obs q ++ os) z))
theorem skip_drop {t:Ent} {L:List Ent}:skipE t L=L.drop (twN (fun x=>decide (cmpE x t < 0)) L):=by
 unfold skipE twN
 have h:=List.takeWhile_append_dropWhile (p:=fun x=>decide (cmpE x t < 0)) (l:=L)
 conv=>rhs;arg 2;rw [← h]
 exact (List.drop_left' rfl).symm
theorem swap_no {w x z:World} {A B C D:List Ob} (h:OW w (A ++ (B ++ C)) x) (k:OW x D z):OW w (A ++ (D ++ C)) z:=by
 have hp:((A ++ (B ++ C)) ++ D).Perm ((A ++ (D ++ C)) ++ B):=by (refine perm_of_cnt fun a=>?_;(simp only [cntO_app]) <;> omega)
 exact ((h.app k).perm hp).left
def ptM (g:Nat) (w:World):Nat:=match w.cell? ⟨g,1,none⟩ with
 | some v=>(intOf v).toNat
 | none=>0
theorem ptM_of {g k:Nat} {w:World} (h:w.cell? ⟨g,1,none⟩=some (.int .i64 (k:Nat))):ptM g w=k:=by
 unfold ptM;rw [h];simp [intOf]
def atM (g:Nat) (w:World):Nat:=match w.cell? ⟨g,3,none⟩ with
 | some v=>(intOf v).toNat
 | none=>0
theorem atM_of {g k:Nat} {w:World} (h:w.cell? ⟨g,3,none⟩=some (.int .i64 (k:Nat))):atM g w=k:=by
 unfold atM;rw [h];simp [intOf]
theorem perm_mid9 {α:Type} (A B C:List α):(A ++ (B ++ C)).Perm (B ++ (A ++ C)):=by (refine perm_of_cnt fun a=>?_;(simp only [cntO_app]) <;> omega)
theorem load_yes {q:RunRec} {rg:Nat} (hrg:rg=q.g) {w:World} (h:RunAt q w) {k:Nat} {r:PRec} (hk:q.rs[k]?=some r) (hin:PcIn 8 q.r.bytes.length r.p) (ht:TabAt 0 w) {L:List Ent} (hb:blkR q.r r.p=some L) :
  Calls Tryz.prog 85 #[.pointer (some ⟨rg,0,none⟩),.int .i64 k] w fun e z=>∃ R g os,e = .returned (.pointer (some ⟨g,0,none⟩))∧Bk5 R L g os∧OW w os z:=by
 subst hrg
 exact (load_any q w h k r hk hin ht).mono fun e z hp=>by
  rcases hp with ⟨L',g,os,h1,h2,h3,h4⟩ | ⟨h1,_⟩
  ·rw [hb] at h1
   injection h1 with h1
   subst h1
   exact ⟨_,g,os,h2,h3,h4⟩
  ·rw [hb] at h1;cases h1
theorem load_no {q:RunRec} {rg:Nat} (hrg:rg=q.g) {w:World} (h:RunAt q w) {k:Nat} {r:PRec} (hk:q.rs[k]?=some r) (hin:PcIn 8 q.r.bytes.length r.p) (ht:TabAt 0 w) (hb:blkR q.r r.p=none) :
  Calls Tryz.prog 85 #[.pointer (some ⟨rg,0,none⟩),.int .i64 k] w fun e z=>e = .returned (.pointer none)∧Below w.heap.size w z:=by
 subst hrg
 exact (load_any q w h k r hk hin ht).mono fun e z hp=>by
  rcases hp with ⟨L',g,os,h1,h2,h3,h4⟩ | ⟨_,h2,h3⟩
  ·rw [hb] at h1;cases h1
  ·exact ⟨h2,h3⟩
theorem blkR_len {r:RunR} {p:PcR} {L:List Ent} (h:blkR r p=some L):L.length≤131072:=by
 unfold blkR at h
 cases ho:openE (cutS r.bytes p.lo (p.hi - p.lo)) with
 | mk o k =>
  rw [ho] at h
  cases o with
  | none=>cases h
  | some L' =>
   dsimp only at h
   split at h
   ·injection h with h
    subst h
    have h1:(openE (cutS r.bytes p.lo (p.hi - p.lo))).1=some L':=by rw [ho]
    have:=blk_few (openE_ok h1).1
    have:=openE_len h1
    omega
   ·cases h
def frameO (ge gk gx gc g:Nat) (ev:Int) (kv:Bool) (xv cv:List Value) (rs:List Ob):List Ob:=boxO ge [.int .i64 ev]::boxO gk [.bool kv]::boxO gx xv::boxO gc [.pointer (some ⟨g,0,none⟩)]::boxO g cv::rs
set_option maxRecDepth 1000000 in
theorem next1_any (ge gk gx gc g:Nat) (ev:Int) (kv:Bool) (xv cv:List Value) (rs:List Ob) (hx:xv.length=7) (hv:cv.length=13) (w x:World) (h:OW w (frameO ge gk gx gc g ev kv xv cv rs) x) (u:FrameMode) :
  CallsD Tryz.prog 154 #[.pointer (some ⟨ge,0,none⟩),.pointer (some ⟨gc,0,none⟩),.pointer (some ⟨gx,0,none⟩),.pointer (some ⟨gk,0,none⟩)] u x fun e u' z=>u'=u∧(e = .returned (.tuple #[])∧OW w (frameO ge gk gx gc g ev (if ev=0 then kv else false) (if ev=0 then xv else [.slice none 0 0,.int .i64 0,.slice none 0 0,.int .i64 0,.int .i64 0,.int .i64 0,.slice none 0 0]) (cv.set 12 (.int .i64 ev)) rs) z):=by
 have HX:=Lib.hid h
 unfold frameO at HX ⊢
 have k12:12 < cv.length:=by omega
 have HXL:=Lib.hid hx
 clear h hv hx
 by_cases he:ev=0
 case pos =>
  have m1:(ev != 0)=false:=by rw [he];rfl
  have HE:=Lib.hid he
  rw [if_pos he,if_pos he]
  clear he
  go_enter_d Tryz.func154,Tryz.ntmps154
  go_upto_region 1 with (first
   | (refine wpList_load_cell rfl 74 (.tmp 1) rfl rfl (HX.out.cell (i:=3) (j:=0) rfl rfl) Tryz.isAgg74 ?_)
   | (refine wpList_load_cell rfl 42 (.tmp 0) rfl rfl (HX.out.cell (i:=0) (j:=0) rfl rfl) Tryz.isAgg42 ?_)
   | (refine wl_put1 rfl (.tmp 7) (.tmp 5) rfl HX.out 4 rfl 12 rfl k12 (.int .i64 ev) rfl (by kernel_rfl) rfl ?_;intro x1 hz _;have HX1:=Lib.hid hz;clear hz HX))
  go_wp2_with (refine wpList_load_cell rfl 42 (.tmp 0) rfl rfl (HX1.out.cell (i:=0) (j:=0) rfl rfl) Tryz.isAgg42 ?_)
  go_end0
  exact ⟨rfl,HX1.out⟩
 have m1:(ev != 0)=true:=bne_iff_ne.2 he
 rw [if_neg he,if_neg he]
 clear he
 go_enter_d Tryz.func154,Tryz.ntmps154
 go_upto_region 1 with (first
  | (refine wpList_load_cell rfl 74 (.tmp 1) rfl rfl (HX.out.cell (i:=3) (j:=0) rfl rfl) Tryz.isAgg74 ?_)
  | (refine wpList_load_cell rfl 42 (.tmp 0) rfl rfl (HX.out.cell (i:=0) (j:=0) rfl rfl) Tryz.isAgg42 ?_)
  | (refine wl_put1 rfl (.tmp 7) (.tmp 5) rfl HX.out 4 rfl 12 rfl k12 (.int .i64 ev) rfl (by kernel_rfl) rfl ?_;intro x1 hz _;have HX1:=Lib.hid hz;clear hz HX))
 go_wp2_with (first
  | (refine wpList_load_cell rfl 42 (.tmp 0) rfl rfl (HX1.out.cell (i:=0) (j:=0) rfl rfl) Tryz.isAgg42 ?_)
  | (refine wl_put rfl (.tmp 2) (.tmp 10) rfl HX1.out 2 rfl rfl [.slice none 0 0,.int .i64 0,.slice none 0 0,.int .i64 0,.int .i64 0,.int .i64 0,.slice none 0 0] rfl (by rw [HXL.out];rfl) (by kernel_rfl) (by simp [Value.oneCell']) ?_;intro x2 hz _;have HX2:=Lib.hid hz;clear hz HX1)
  | (refine wl_put1 rfl (.tmp 3) (.const (.bool false)) rfl HX2.out 1 rfl 0 rfl (by simp) (.bool false) rfl (by kernel_rfl) rfl ?_;intro x3 hz _;have HX3:=Lib.hid hz;clear hz HX2))
 go_end0
 exact ⟨rfl,HX3.out⟩
theorem next_leave {ge gk gx gc g:Nat} {ev:Int} {kv:Bool} {xv cv:List Value} {rs:List Ob} (hx:xv.length=7) (hv:cv.length=13) {w x:World} (h:OW w (frameO ge gk gx gc g ev kv xv cv rs) x) {tmps:Array Value} {RR:Ending→World→Prop} {fv:Fn} {cap dargs:Array Value}
  (hi:∀ W,(invoke (.fn fv cap) dargs).run Tryz.prog W = .ok (.enter 154 #[.pointer (some ⟨ge,0,none⟩),.pointer (some ⟨gc,0,none⟩),.pointer (some ⟨gx,0,none⟩),.pointer (some ⟨gk,0,none⟩)]) W)
  (h2:tmps.getD 2 undef = .pointer (some ⟨gx,0,none⟩)) (h3:tmps.getD 3 undef = .pointer (some ⟨gk,0,none⟩)) (h4:tmps.getD 4 undef = .pointer (some ⟨ge,0,none⟩))
  (hR:∀ z,OW w (boxO g (cv.set 12 (.int .i64 ev))::rs) z→RR (.returned (.tuple #[.agg (if ev=0 then xv else [.slice none 0 0,.int .i64 0,.slice none 0 0,.int .i64 0,.int .i64 0,.int .i64 0,.slice none 0 0]).toArray,.bool (if ev=0 then kv else false),.int .i64 ev])) z) :
  Leaves Tryz.prog Tryz.f89 tmps RR [{ target := .fn fv cap,args:=dargs }] .returning x:=by
 refine leaves_cons (by simp) (hi x) ?_
 refine (next1_any ge gk gx gc g ev kv xv cv rs hx hv w x h .returning).mono ?_
 rintro e u' z ⟨rfl,rfl,hz⟩
 have hl:(if ev=0 then xv else [.slice none 0 0,.int .i64 0,.slice none 0 0,.int .i64 0,.int .i64 0,.int .i64 0,.slice none 0 0]).length=7:=by split;exact hx;rfl
 refine ⟨_,results_three rfl tmps z gx gk ge (if ev=0 then xv else [.slice none 0 0,.int .i64 0,.slice none 0 0,.int .i64 0,.int .i64 0,.int .i64 0,.slice none 0 0]) (.bool (if ev=0 then kv else false)) (.int .i64 ev) h2 h3 h4 ?_ ?_ ?_ Tryz.isAgg4 Tryz.isAgg42 (by kernel_rfl) (by rw [hl];kernel_rfl),?_⟩
 ·exact OW.range hz (i:=2) rfl
 ·exact OW.cell hz (i:=1) (j:=0) rfl rfl
 ·exact OW.cell hz (i:=0) (j:=0) rfl rfl
 ·exact hR z (OW.sub hz ((((List.Sublist.refl _).cons _).cons _).cons _ |>.cons _))
set_option maxRecDepth 1000000 in
set_option maxHeartbeats 16000000 in
theorem next_any (q:RunRec) (hf:RunF q) (c:CurR) (hc:c.Ok q.r) (w x:World) (os:List Ob) (hs:q.obs.Sublist os) (h:OW w (c.obs q ++ os) x) (ht:TabAt 0 w) :
  Calls Tryz.prog 89 #[.pointer (some ⟨c.g,0,none⟩)] x (NextP q c w os):=by
 have HP:Hid (∀ e z,NextP q c w os e z→NextP q c w os e z):=Lib.hid fun _ _ h=>h
 obtain ⟨PP,hPP⟩:∃ m,m=NextP q c w os:=⟨_,rfl⟩
 have HRA:Hid (∀ A z,OW w (A ++ os) z→RunAt q z):=Lib.hid fun A z hz => .of hf.ok hz (hs.trans (List.sublist_append_right _ _))
 have HTB:Hid (∀ z,Below w.heap.size w z→TabAt 0 z):=Lib.hid fun z hz=>ht.later hz
 have HF:=Lib.hid hf
 obtain ⟨cr,hcr⟩:∃ m,m=c.rest q.r:=⟨_,rfl⟩
 have HPY:Hid (∀ (c':CurR) (y:Ent) (L':List Ent) (b:Bool) (A B D:Option Addr) (z:World),cr=(y::L',b)→c'.g=c.g→c'.Ok q.r→c'.rest q.r=(L',b)→CAt A y.row→CAt B y.qual→CAt D y.val→checkE y=0→OW w (clipO A y.row::clipO B y.qual::clipO D y.val::(c'.obs q ++ os)) z→PP (.returned (.tuple #[entV A y.row.length y.row.length B y.qual.length y.qual.length D y.val.length y.val.length y,.bool true,.int .i64 0])) z):=Lib.hid fun c' y L' b A B D z h0 h1 h2 h3 h4 h5 h6 h7 h8=>by
  rw [hPP];exact ⟨c',h1,h2,.inl ⟨y,L',b,A,B,D,by rw [← hcr];exact h0,h3,rfl,h4,h5,h6,h7,h8⟩⟩
 have HPN:Hid (∀ (c':CurR) (b:Bool) (z:World),cr=([],b)→c'.g=c.g→c'.Ok q.r→c'.rest q.r=([],b)→OW w (c'.obs q ++ os) z→PP (.returned (.tuple #[entV none 0 0 none 0 0 none 0 0 noEnt,.bool false,.int .i64 (if b then 0 else 73)])) z):=Lib.hid fun c' b z h0 h1 h2 h3 h4=>by
  rw [hPP];exact ⟨c',h1,h2,.inr ⟨b,by rw [← hcr];exact h0,h3,rfl,h4⟩⟩
 rw [← hPP]
 clear HP hPP
 obtain ⟨g,pt,nv,nL,no,at',sk,tg,TA,tc,TB,td,er⟩:=c
 obtain ⟨rg,hrg⟩:∃ m,m=q.g:=⟨_,rfl⟩
 have HRG:=Lib.hid hrg
 unfold CurR.obs CurR.cells at h
 have HCR:Hid (cr=CurR.rest ⟨g,pt,nv,nL,no,at',sk,tg,TA,tc,TB,td,er⟩ q.r):=Lib.hid hcr
 have HOK:=Lib.hid hc
 have HX0:Hid (OW w (boxO g [.pointer (some ⟨rg,0,none⟩),.int .i64 pt,nv,.int .i64 at',.bool sk,.slice TA tg.row.length tc,.int .i64 tg.fam,.slice TB tg.qual.length td,.int .i64 tg.ts,.int .i64 tg.seq,.int .i64 tg.kind,.slice none 0 0,.int .i64 er]::bytO 5 (TA,tc,tg.row)::bytO 5 (TB,td,tg.qual)::(no ++ os)) x):=Lib.hid (by rw [hrg];exact h)
 have her:er=0∨er=73:=hc.er
 have HVAL:=Lib.hid hc.val
 clear h hf hc hs ht hcr hrg
 obtain ⟨n,hn⟩:∃ m,m=q.r.ps.length:=⟨_,rfl⟩
 have HN:=Lib.hid hn
 have hn9:n≤16777216:=by rw [hn];exact HF.out.few
 clear hn
 have HPN2:Hid (∀ (pt':Nat) (nv':Value) (nL':List Ent) (no':List Ob) (at2:Nat) (sk':Bool) (er':Int) (b:Bool) (z:World),cr=([],b)→CurR.Ok ⟨g,pt',nv',nL',no',at2,sk',tg,TA,tc,TB,td,er'⟩ q.r→CurR.rest ⟨g,pt',nv',nL',no',at2,sk',tg,TA,tc,TB,td,er'⟩ q.r=([],b)→OW w (boxO g [.pointer (some ⟨rg,0,none⟩),.int .i64 pt',nv',.int .i64 at2,.bool sk',.slice TA tg.row.length tc,.int .i64 tg.fam,.slice TB tg.qual.length td,.int .i64 tg.ts,.int .i64 tg.seq,.int .i64 tg.kind,.slice none 0 0,.int .i64 er']::bytO 5 (TA,tc,tg.row)::bytO 5 (TB,td,tg.qual)::(no' ++ os)) z→PP (.returned (.tuple #[.agg #[.slice none 0 0,.int .i64 0,.slice none 0 0,.int .i64 0,.int .i64 0,.int .i64 0,.slice none 0 0],.bool false,.int .i64 (if b then 0 else 73)])) z):=Lib.hid fun pt' nv' nL' no' at2 sk' er' b z h0 h1 h2 h3=>HPN.out ⟨g,pt',nv',nL',no',at2,sk',tg,TA,tc,TB,td,er'⟩ b z h0 rfl h1 h2 (by unfold CurR.obs CurR.cells;rw [← HRG.out];exact h3)
 have HPY2:Hid (∀ (pt':Nat) (nv':Value) (nL':List Ent) (no':List Ob) (at2:Nat) (sk':Bool) (er':Int) (y:Ent) (L':List Ent) (b:Bool) (A B D:Option Addr) (z:World),cr=(y::L',b)→CurR.Ok ⟨g,pt',nv',nL',no',at2,sk',tg,TA,tc,TB,td,er'⟩ q.r→CurR.rest ⟨g,pt',nv',nL',no',at2,sk',tg,TA,tc,TB,td,er'⟩ q.r=(L',b)→CAt A y.row→CAt B y.qual→CAt D y.val→checkE y=0→OW w (clipO A y.row::clipO B y.qual::clipO D y.val::boxO g [.pointer (some ⟨rg,0,none⟩),.int .i64 pt',nv',.int .i64 at2,.bool sk',.slice TA tg.row.length tc,.int .i64 tg.fam,.slice TB tg.qual.length td,.int .i64 tg.ts,.int .i64 tg.seq,.int .i64 tg.kind,.slice none 0 0,.int .i64 er']::bytO 5 (TA,tc,tg.row)::bytO 5 (TB,td,tg.qual)::(no' ++ os)) z→PP (.returned (.tuple #[entV A y.row.length y.row.length B y.qual.length y.qual.length D y.val.length y.val.length y,.bool true,.int .i64 0])) z):=Lib.hid fun pt' nv' nL' no' at2 sk' er' y L' b A B D z h0 h1 h2 h3 h4 h5 h6 h7=>HPY.out ⟨g,pt',nv',nL',no',at2,sk',tg,TA,tc,TB,td,er'⟩ y L' b A B D z h0 rfl h1 h2 h3 h4 h5 h6 (by unfold CurR.obs CurR.cells;rw [← HRG.out];exact h7)
 have HRA7:Hid (∀ (o1 o2 o3 o4 o5 o6 o7:Ob) (no':List Ob) (z:World),OW w (o1::o2::o3::o4::o5::o6::o7::(no' ++ os)) z→RunAt q z):=Lib.hid fun o1 o2 o3 o4 o5 o6 o7 no' z hz=>HRA.out (o1::o2::o3::o4::o5::o6::o7::no') z hz
 have HC9:Hid (∀ z,RunAt q z→z.cell? ⟨rg,9,none⟩=some (.slice q.PA n q.pc)):=Lib.hid fun z hz=>by
  rw [HRG.out,HN.out,← HF.out.len];exact hz.cell rfl
 have HBKR:Hid (∀ (o1 o2 o3 o4 o5 o6 o7:Ob) (bg RR:Nat) (nL':List Ent) (no':List Ob),Bk5 RR nL' bg no'→∀ z,OW w (o1::o2::o3::o4::o5::o6::o7::(no' ++ os)) z→BkR z RR bg nL'):=Lib.hid fun o1 o2 o3 o4 o5 o6 o7 bg RR nL' no' hb z hz=>hb.reads (rest:=[o1,o2,o3,o4,o5,o6,o7] ++ os) (hz.perm (perm_mid9 [o1,o2,o3,o4,o5,o6,o7] no' os))
 clear HPN HPY
 refine calls_defer Tryz.func89 rfl ?_
 simp only [Tryz.ntmps89,List.size_toArray,List.length_cons,List.length_nil,Nat.reduceAdd,Nat.reduceSub,Array.replicate_succ,Array.replicate_zero,List.push_toArray,List.append_toArray,List.nil_append,List.cons_append]
 go_upto_region 2 with (first
  | (refine wl_box rfl (.tmp 0) rfl [.pointer (some ⟨g,0,none⟩)] rfl HX0.out ?_;intro gc y1 hz _;have HX1:Hid (OW w (boxO gc [.pointer (some ⟨g,0,none⟩)]::boxO g [.pointer (some ⟨rg,0,none⟩),.int .i64 pt,nv,.int .i64 at',.bool sk,.slice TA tg.row.length tc,.int .i64 tg.fam,.slice TB tg.qual.length td,.int .i64 tg.ts,.int .i64 tg.seq,.int .i64 tg.kind,.slice none 0 0,.int .i64 er]::bytO 5 (TA,tc,tg.row)::bytO 5 (TB,td,tg.qual)::(no ++ os)) y1):=Lib.hid (OW.perm hz (List.perm_append_singleton _ _));clear hz HX0)
  | (refine wl_alloc rfl rfl [.slice none 0 0,.int .i64 0,.slice none 0 0,.int .i64 0,.int .i64 0,.int .i64 0,.slice none 0 0] (.inl (by kernel_rfl)) HX1.out ?_;intro gx y2 hz _;have HX2:Hid (OW w (boxO gx [.slice none 0 0,.int .i64 0,.slice none 0 0,.int .i64 0,.int .i64 0,.int .i64 0,.slice none 0 0]::boxO gc [.pointer (some ⟨g,0,none⟩)]::boxO g [.pointer (some ⟨rg,0,none⟩),.int .i64 pt,nv,.int .i64 at',.bool sk,.slice TA tg.row.length tc,.int .i64 tg.fam,.slice TB tg.qual.length td,.int .i64 tg.ts,.int .i64 tg.seq,.int .i64 tg.kind,.slice none 0 0,.int .i64 er]::bytO 5 (TA,tc,tg.row)::bytO 5 (TB,td,tg.qual)::(no ++ os)) y2):=Lib.hid (OW.perm hz (List.perm_append_singleton _ _));clear hz HX1)
  | (refine wl_alloc rfl rfl [.bool false] (.inr ⟨.bool false,by kernel_rfl,rfl⟩) HX2.out ?_;intro gk y3 hz _;have HX3:Hid (OW w (boxO gk [.bool false]::boxO gx [.slice none 0 0,.int .i64 0,.slice none 0 0,.int .i64 0,.int .i64 0,.int .i64 0,.slice none 0 0]::boxO gc [.pointer (some ⟨g,0,none⟩)]::boxO g [.pointer (some ⟨rg,0,none⟩),.int .i64 pt,nv,.int .i64 at',.bool sk,.slice TA tg.row.length tc,.int .i64 tg.fam,.slice TB tg.qual.length td,.int .i64 tg.ts,.int .i64 tg.seq,.int .i64 tg.kind,.slice none 0 0,.int .i64 er]::bytO 5 (TA,tc,tg.row)::bytO 5 (TB,td,tg.qual)::(no ++ os)) y3):=Lib.hid (OW.perm hz (List.perm_append_singleton _ _));clear hz HX2)
  | (refine wl_alloc rfl rfl [.int .i64 0] (.inr ⟨.int .i64 0,by kernel_rfl,rfl⟩) HX3.out ?_;intro ge y4 hz _;have HX:Hid (OW w (boxO ge [.int .i64 0]::boxO gk [.bool false]::boxO gx [.slice none 0 0,.int .i64 0,.slice none 0 0,.int .i64 0,.int .i64 0,.int .i64 0,.slice none 0 0]::boxO gc [.pointer (some ⟨g,0,none⟩)]::boxO g [.pointer (some ⟨rg,0,none⟩),.int .i64 pt,nv,.int .i64 at',.bool sk,.slice TA tg.row.length tc,.int .i64 tg.fam,.slice TB tg.qual.length td,.int .i64 tg.ts,.int .i64 tg.seq,.int .i64 tg.kind,.slice none 0 0,.int .i64 er]::bytO 5 (TA,tc,tg.row)::bytO 5 (TB,td,tg.qual)::(no ++ os)) y4):=Lib.hid (OW.perm hz (List.perm_append_singleton _ _));clear hz HX3))
 by_cases hz0:er=0
 case neg =>
  have e73:er=73:=by omega
  have m1:(er != 0)=true:=bne_iff_ne.2 hz0
  have HCRN:Hid (cr=([],false)):=Lib.hid (by rw [HCR.out];unfold CurR.rest;rw [if_pos hz0])
  have HRN:Hid (CurR.rest ⟨g,pt,nv,nL,no,at',sk,tg,TA,tc,TB,td,er⟩ q.r=([],false)):=Lib.hid (by unfold CurR.rest;rw [if_pos hz0])
  go_upto_region 3 with (first
   | (refine wpList_load_cell rfl 74 (.tmp 1) rfl rfl (HX.out.cell (i:=3) (j:=0) rfl rfl) Tryz.isAgg74 ?_)
   | (refine wpList_load_cell rfl 42 (.tmp 11) rfl rfl (HX.out.cell (i:=4) (j:=12) rfl rfl) Tryz.isAgg42 ?_))
  refine lt_start [7] (by kernel_rfl) ?_
  intro xd hd
  refine ⟨fun z=>OW w (boxO ge [.int .i64 0]::boxO gk [.bool false]::boxO gx [.slice none 0 0,.int .i64 0,.slice none 0 0,.int .i64 0,.int .i64 0,.int .i64 0,.slice none 0 0]::boxO gc [.pointer (some ⟨g,0,none⟩)]::boxO g [.pointer (some ⟨rg,0,none⟩),.int .i64 pt,nv,.int .i64 at',.bool sk,.slice TA tg.row.length tc,.int .i64 tg.fam,.slice TB tg.qual.length td,.int .i64 tg.ts,.int .i64 tg.seq,.int .i64 tg.kind,.slice none 0 0,.int .i64 er]::bytO 5 (TA,tc,tg.row)::bytO 5 (TB,td,tg.qual)::(no ++ os)) z,?_⟩
  have HS:=Lib.hid (HX.out.later hd)
  refine lq 0 [5,6,7] rfl (yi_rowO rfl rfl rfl (fun w hS=>OW.range hS (i:=2) rfl) ent_row5) HS.out ?_
  simp only [Act.put,ls]
  refine lq 1 [2,3,4,7] rfl (yi_cell rfl rfl rfl (fun w hS=>OW.cell hS (i:=3) (j:=0) rfl rfl) Tryz.isAgg74) HS.out ?_
  simp only [Act.put,ls]
  refine lp2 2 rfl (fun _=>HS.out) ?_
  simp only [Act.put,ls]
  refine lp2 3 rfl (fun _=>HS.out) ?_
  simp only [Act.put,ls]
  refine lq 4 [7] rfl (yi_cell rfl rfl rfl (fun w hS=>OW.cell hS (i:=4) (j:=12) rfl rfl) Tryz.isAgg42) HS.out ?_
  simp only [Act.put,ls]
  refine lt_op 5 rfl (by kernel_rfl) rfl ?_
  refine wpo_put rfl HS.out 2 rfl rfl [.slice none 0 0,.int .i64 0,.slice none 0 0,.int .i64 0,.int .i64 0,.int .i64 0,.slice none 0 0] rfl rfl (by kernel_rfl) (by simp [Value.oneCell']) ?_
  intro z9 hz _
  replace HS:=Lib.hid hz
  clear hz
  refine ⟨fun _=>HS.out,?_⟩
  simp only [Act.put]
  refine lt_op 6 rfl (by kernel_rfl) rfl ?_
  refine wpo_put1 rfl HS.out 1 rfl 0 rfl (by simp) (.bool false) rfl (by kernel_rfl) rfl ?_
  intro z9 hz _
  replace HS:=Lib.hid hz
  clear hz
  refine ⟨fun _=>HS.out,?_⟩
  simp only [Act.put]
  have HX9:=HS
  refine lt_end 7 rfl (by kernel_rfl) rfl (by kernel_rfl) ?_
  refine wpo_put1 rfl HX9.out 0 rfl 0 rfl (by simp) (.int .i64 er) rfl (by kernel_rfl) rfl ?_
  intro z9 hz _
  replace HX9:=Lib.hid hz
  clear hz
  simp only [Act.put]
  refine lt_done (by kernel_rfl) ?_
  clear HS
  clear HX
  have HX:Hid (OW w (boxO ge [.int .i64 er]::boxO gk [.bool false]::boxO gx [.slice none 0 0,.int .i64 0,.slice none 0 0,.int .i64 0,.int .i64 0,.int .i64 0,.slice none 0 0]::boxO gc [.pointer (some ⟨g,0,none⟩)]::boxO g [.pointer (some ⟨rg,0,none⟩),.int .i64 pt,nv,.int .i64 at',.bool sk,.slice TA tg.row.length tc,.int .i64 tg.fam,.slice TB tg.qual.length td,.int .i64 tg.ts,.int .i64 tg.seq,.int .i64 tg.kind,.slice none 0 0,.int .i64 er]::bytO 5 (TA,tc,tg.row)::bytO 5 (TB,td,tg.qual)::(no ++ os)) z9):=HX9
  clear HX9
  go_wp2_with fail
  refine next_leave rfl rfl HX.out (fun W=>rfl) rfl rfl rfl fun z hz=>?_
  rw [if_neg hz0,if_neg hz0,e73]
  exact HPN2.out pt nv nL no at' sk er false z HCRN.out HOK.out HRN.out hz
 subst hz0
 have m0:((0:Int) != 0)=false:=rfl
 go_upto_region 3 with (first
  | (refine wpList_load_cell rfl 74 (.tmp 1) rfl rfl (HX.out.cell (i:=3) (j:=0) rfl rfl) Tryz.isAgg74 ?_)
  | (refine wpList_load_cell rfl 42 (.tmp 11) rfl rfl (HX.out.cell (i:=4) (j:=12) rfl rfl) Tryz.isAgg42 ?_))
 have HOK1:=HOK
 have HCR1:=HCR
 clear HOK HCR m0 her
 go_loopw [5] (fun _ wr=>∃ (pt:Nat) (nv:Value) (nL:List Ent) (no:List Ob) (at':Nat) (sk:Bool),Hid (CurR.Ok ⟨g,pt,nv,nL,no,at',sk,tg,TA,tc,TB,td,0⟩ q.r)∧Hid (cr=CurR.rest ⟨g,pt,nv,nL,no,at',sk,tg,TA,tc,TB,td,0⟩ q.r)∧Hid (OW w (boxO ge [.int .i64 0]::boxO gk [.bool false]::boxO gx [.slice none 0 0,.int .i64 0,.slice none 0 0,.int .i64 0,.int .i64 0,.int .i64 0,.slice none 0 0]::boxO gc [.pointer (some ⟨g,0,none⟩)]::boxO g [.pointer (some ⟨rg,0,none⟩),.int .i64 pt,nv,.int .i64 at',.bool sk,.slice TA tg.row.length tc,.int .i64 tg.fam,.slice TB tg.qual.length td,.int .i64 tg.ts,.int .i64 tg.seq,.int .i64 tg.kind,.slice none 0 0,.int .i64 0]::bytO 5 (TA,tc,tg.row)::bytO 5 (TB,td,tg.qual)::(no ++ os)) wr)) (fun _ wr=>n - ptM g wr)
 case atStart=>exact ⟨pt,nv,nL,no,at',sk,HOK1,HCR1,HX⟩
 case round =>
  clear HX HOK1 HCR1 pt nv nL no at' sk
  obtain ⟨pt,nv,nL,no,at',sk,HOK,HCR,HX⟩:=hrel
  have HPM:Hid (ptM g wr=pt):=Lib.hid (ptM_of (HX.out.cell (i:=4) (j:=1) rfl rfl))
  have hpt:pt≤n:=by rw [HN.out];exact HOK.out.pt
  have hat:at'≤nL.length:=HOK.out.at_
  have hln:nL.length≤131072:=HOK.out.len
  by_cases hlt:at' < nL.length
  case pos =>
   have hsk:sk=false:=by
    cases hs:sk with
    | false=>rfl
    | true=>have h1:at'=nL.length:=HOK.out.skp hs;omega
   subst hsk
   obtain ⟨bg,RR,hnv,hbk⟩:∃ bg RR,nv = .pointer (some ⟨bg,0,none⟩)∧Bk5 RR nL bg no:=by
    rcases HOK.out.now with ⟨_,h,_⟩ | h
    ·have h:nL=[]:=h
     rw [h] at hlt;exact absurd hlt (by simp)
    ·exact h
   subst hnv
   have HBK:=Lib.hid hbk
   obtain ⟨y,hy⟩:∃ y,nL[at']?=some y:=⟨_,List.getElem?_eq_getElem hlt⟩
   have HY:=Lib.hid hy
   have HCY:Hid (checkE y=0):=Lib.hid (HOK.out.chk y (List.mem_of_getElem? hy))
   have HCRY:Hid (∃ L' b,cr=(y::L',b)∧CurR.rest ⟨g,pt,(.pointer (some ⟨bg,0,none⟩)),nL,no,(at' + 1),false,tg,TA,tc,TB,td,0⟩ q.r=(L',b)):=Lib.hid (by
    obtain ⟨hl,he⟩:=List.getElem?_eq_some_iff.1 hy
    rw [HCR.out]
    unfold CurR.rest
    refine ⟨_,_,?_,rfl⟩
    dsimp only
    rw [List.drop_eq_getElem_cons hl,he,List.cons_append,if_neg (by decide)])
   have HOK2:Hid (CurR.Ok ⟨g,pt,(.pointer (some ⟨bg,0,none⟩)),nL,no,(at' + 1),false,tg,TA,tc,TB,td,0⟩ q.r):=Lib.hid ⟨HOK.out.now,HOK.out.pt,hlt,(fun h=>by cases h),HOK.out.chk,HOK.out.len,HOK.out.val,HOK.out.er⟩
   have HLL:Hid (∀ e,e ∈ nL→e.row.length≤140737488355000∧e.qual.length≤140737488355000∧e.val.length≤140737488355000):=Lib.hid fun e he=>ok_lens (HOK.out.chk e he)
   obtain ⟨ml,hml⟩:∃ m,m=nL.length:=⟨_,rfl⟩
   have HML:=Lib.hid hml.symm
   have d1:decide ((at':Int) ≥ (ml:Int))=false:=decide_eq_false (by omega)
   have d2:decide (ml≤at')=false:=decide_eq_false (by omega)
   have d3:¬ ml≤at':=by omega
   have s1:IntKind.i64.wrap ((at':Int) + 1)=(at':Int) + 1:=i64_sum (by omega) (by omega)
   clear hbk hy hml hlt
   go_upto_region 4 with fail
   refine lt_start [] (by kernel_rfl) ?_
   intro xd hd
   refine ⟨fun z=>OW w (boxO ge [.int .i64 0]::boxO gk [.bool false]::boxO gx [.slice none 0 0,.int .i64 0,.slice none 0 0,.int .i64 0,.int .i64 0,.int .i64 0,.slice none 0 0]::boxO gc [.pointer (some ⟨g,0,none⟩)]::boxO g [.pointer (some ⟨rg,0,none⟩),.int .i64 pt,.pointer (some ⟨bg,0,none⟩),.int .i64 at',.bool false,.slice TA tg.row.length tc,.int .i64 tg.fam,.slice TB tg.qual.length td,.int .i64 tg.ts,.int .i64 tg.seq,.int .i64 tg.kind,.slice none 0 0,.int .i64 0]::bytO 5 (TA,tc,tg.row)::bytO 5 (TB,td,tg.qual)::(no ++ os)) z,?_⟩
   have HS:=Lib.hid (HX.out.later hd)
   refine lq 0 [1,2,3,4,5,6,7,8,9,10,11,12,13,14,15,16] rfl (yi_cell rfl rfl rfl (fun w hS=>OW.cell hS (i:=3) (j:=0) rfl rfl) Tryz.isAgg74) HS.out ?_
   simp only [Act.put,ls]
   refine lp2 1 rfl (fun _=>HS.out) ?_
   simp only [Act.put,ls]
   refine lp2 2 rfl (fun _=>HS.out) ?_
   simp only [Act.put,ls]
   refine lq 3 [4,5,6,7,8,9,10,11,12,13,14,15,16] rfl (yi_cell rfl rfl rfl (fun w hS=>OW.cell hS (i:=4) (j:=2) rfl rfl) Tryz.isAgg163) HS.out ?_
   simp only [Act.put,ls]
   refine lp2 4 rfl (fun _=>HS.out) ?_
   simp only [Act.put,ls]
   refine lp2 5 rfl (fun _=>HS.out) ?_
   simp only [Act.put,ls]
   refine lq 6 [7,8,9,15,16] rfl (yi_cell rfl rfl rfl (fun w hS=>OW.cell hS (i:=3) (j:=0) rfl rfl) Tryz.isAgg74) HS.out ?_
   simp only [Act.put,ls]
   refine lp2 7 rfl (fun _=>HS.out) ?_
   simp only [Act.put,ls]
   refine lp2 8 rfl (fun _=>HS.out) ?_
   simp only [Act.put,ls]
   refine lq 9 [15,16] rfl (yi_cell rfl rfl rfl (fun w hS=>OW.cell hS (i:=4) (j:=3) rfl rfl) Tryz.isAgg3) HS.out ?_
   simp only [Act.put,ls]
   refine lq 10 [11,12,13,14,15,16] rfl (yi_cell rfl rfl rfl (fun w hS=>OW.cell hS (i:=3) (j:=0) rfl rfl) Tryz.isAgg74) HS.out ?_
   simp only [Act.put,ls]
   refine lp2 11 rfl (fun _=>HS.out) ?_
   simp only [Act.put,ls]
   refine lp2 12 rfl (fun _=>HS.out) ?_
   simp only [Act.put,ls]
   refine lq 13 [14,15,16] rfl (yi_cell rfl rfl rfl (fun w hS=>OW.cell hS (i:=4) (j:=2) rfl rfl) Tryz.isAgg163) HS.out ?_
   simp only [Act.put,ls]
   refine lt_call 14 rfl (by kernel_rfl) rfl rfl ⟨_,Tryz.func150,by decide,by kernel_rfl⟩ [.pointer (some ⟨bg,0,none⟩)] rfl ?_
   refine (len_any (HBKR.out _ _ _ _ _ _ _ _ _ _ _ HBK.out _ HS.out)).mono ?_
   rw [HML.out]
   rintro e z8 ⟨rfl,hb⟩
   replace HS:=Lib.hid (HS.out.later hb)
   clear hb
   refine ⟨_,rfl,fun _=>HS.out,?_⟩
   simp only [Act.put,ls]
   refine lp2 15 rfl (fun _=>HS.out) ?_
   simp only [Act.put,ls]
   refine lp2 16 rfl (fun _=>HS.out) ?_
   simp only [Act.put,ls]
   refine lt_done (by kernel_rfl) ?_
   have HX9:=HS
   clear HS
   clear HX
   have HX:=HX9
   clear HX9
   go_wp2_with fail
   refine lt_start [12,13] (by kernel_rfl) ?_
   intro xd hd
   refine ⟨fun z=>OW w (boxO ge [.int .i64 0]::boxO gk [.bool false]::boxO gx [.slice none 0 0,.int .i64 0,.slice none 0 0,.int .i64 0,.int .i64 0,.int .i64 0,.slice none 0 0]::boxO gc [.pointer (some ⟨g,0,none⟩)]::boxO g [.pointer (some ⟨rg,0,none⟩),.int .i64 pt,.pointer (some ⟨bg,0,none⟩),.int .i64 at',.bool false,.slice TA tg.row.length tc,.int .i64 tg.fam,.slice TB tg.qual.length td,.int .i64 tg.ts,.int .i64 tg.seq,.int .i64 tg.kind,.slice none 0 0,.int .i64 0]::bytO 5 (TA,tc,tg.row)::bytO 5 (TB,td,tg.qual)::(no ++ os)) z,?_⟩
   have HS:=Lib.hid (HX.out.later hd)
   refine lq 0 [1,2,3,8,9,10,11,12,13] rfl (yi_cell rfl rfl rfl (fun w hS=>OW.cell hS (i:=3) (j:=0) rfl rfl) Tryz.isAgg74) HS.out ?_
   simp only [Act.put,ls]
   refine lp2 1 rfl (fun _=>HS.out) ?_
   simp only [Act.put,ls]
   refine lp2 2 rfl (fun _=>HS.out) ?_
   simp only [Act.put,ls]
   refine lq 3 [8,9,10,11,12,13] rfl (yi_cell rfl rfl rfl (fun w hS=>OW.cell hS (i:=4) (j:=2) rfl rfl) Tryz.isAgg163) HS.out ?_
   simp only [Act.put,ls]
   refine lq 4 [5,6,7,8,9,10,11,12,13] rfl (yi_cell rfl rfl rfl (fun w hS=>OW.cell hS (i:=3) (j:=0) rfl rfl) Tryz.isAgg74) HS.out ?_
   simp only [Act.put,ls]
   refine lp2 5 rfl (fun _=>HS.out) ?_
   simp only [Act.put,ls]
   refine lp2 6 rfl (fun _=>HS.out) ?_
   simp only [Act.put,ls]
   refine lq 7 [8,9,10,11,12,13] rfl (yi_cell rfl rfl rfl (fun w hS=>OW.cell hS (i:=4) (j:=3) rfl rfl) Tryz.isAgg3) HS.out ?_
   simp only [Act.put,ls]
   refine lt_call 8 rfl (by kernel_rfl) rfl rfl ⟨_,Tryz.func151,by decide,by kernel_rfl⟩ [.pointer (some ⟨bg,0,none⟩),.int .i64 at'] rfl ?_
   refine (at_in (HBKR.out _ _ _ _ _ _ _ _ _ _ _ HBK.out _ HS.out) HLL.out HY.out).mono ?_
   rintro e z8 hp
   obtain ⟨A1,B1,D1,rfl,ca,cb,cd,hz⟩:=hp.own
   have HCA:=Lib.hid (And.intro ca (And.intro cb cd))
   have HX9:=Lib.hid ((HS.out.app hz).perm List.perm_append_comm)
   replace HS:=Lib.hid (HS.out.later hz.up)
   clear ca cb cd hz hp
   refine ⟨_,rfl,fun _=>HS.out,?_⟩
   simp only [Act.put,ls]
   refine lp2 9 rfl (fun _=>HS.out) ?_
   simp only [Act.put,ls]
   refine lp2 10 rfl (fun _=>HS.out) ?_
   simp only [Act.put,ls]
   refine lp2 11 rfl (fun _=>HS.out) ?_
   simp only [Act.put,ls]
   refine lt_end 12 rfl (by kernel_rfl) rfl (by kernel_rfl) ?_
   refine wpo_put rfl HX9.out 5 rfl rfl [.slice A1 y.row.length y.row.length,.int .i64 y.fam,.slice B1 y.qual.length y.qual.length,.int .i64 y.ts,.int .i64 y.seq,.int .i64 y.kind,.slice D1 y.val.length y.val.length] rfl rfl (by kernel_rfl) (by simp [Value.oneCell']) ?_
   intro z9 hz _
   replace HX9:=Lib.hid hz
   clear hz
   simp only [Act.put]
   refine lt_end 13 rfl (by kernel_rfl) rfl (by kernel_rfl) ?_
   refine wpo_put1 rfl HX9.out 3 rfl 0 rfl (by simp) (.int .i64 0) rfl (by kernel_rfl) rfl ?_
   intro z9 hz _
   replace HX9:=Lib.hid hz
   clear hz
   simp only [Act.put]
   refine lt_done (by kernel_rfl) ?_
   clear HS
   clear HX
   have HX:Hid (OW w (clipO A1 y.row::clipO B1 y.qual::clipO D1 y.val::boxO ge [.int .i64 0]::boxO gk [.bool false]::boxO gx [.slice A1 y.row.length y.row.length,.int .i64 y.fam,.slice B1 y.qual.length y.qual.length,.int .i64 y.ts,.int .i64 y.seq,.int .i64 y.kind,.slice D1 y.val.length y.val.length]::boxO gc [.pointer (some ⟨g,0,none⟩)]::boxO g [.pointer (some ⟨rg,0,none⟩),.int .i64 pt,.pointer (some ⟨bg,0,none⟩),.int .i64 at',.bool false,.slice TA tg.row.length tc,.int .i64 tg.fam,.slice TB tg.qual.length td,.int .i64 tg.ts,.int .i64 tg.seq,.int .i64 tg.kind,.slice none 0 0,.int .i64 0]::bytO 5 (TA,tc,tg.row)::bytO 5 (TB,td,tg.qual)::(no ++ os)) z9):=HX9
   clear HX9
   go_upto_region 19 with (first
    | (refine wpList_load_cell rfl 74 (.tmp 1) rfl rfl (HX.out.cell (i:=6) (j:=0) rfl rfl) Tryz.isAgg74 ?_)
    | (refine wpList_load_cell rfl 3 (.tmp 129) rfl rfl (HX.out.cell (i:=7) (j:=3) rfl rfl) Tryz.isAgg3 ?_)
    | (refine wl_put1 rfl (.tmp 133) (.tmp 131) rfl HX.out 7 rfl 3 rfl (by simp) (.int .i64 ((at':Int) + 1)) rfl (by kernel_rfl) rfl ?_;intro z10 hz _;have HX9:Hid (OW w (clipO A1 y.row::clipO B1 y.qual::clipO D1 y.val::boxO ge [.int .i64 0]::boxO gk [.bool false]::boxO gx [.slice A1 y.row.length y.row.length,.int .i64 y.fam,.slice B1 y.qual.length y.qual.length,.int .i64 y.ts,.int .i64 y.seq,.int .i64 y.kind,.slice D1 y.val.length y.val.length]::boxO gc [.pointer (some ⟨g,0,none⟩)]::boxO g [.pointer (some ⟨rg,0,none⟩),.int .i64 pt,.pointer (some ⟨bg,0,none⟩),.int .i64 ((at':Int) + 1),.bool false,.slice TA tg.row.length tc,.int .i64 tg.fam,.slice TB tg.qual.length td,.int .i64 tg.ts,.int .i64 tg.seq,.int .i64 tg.kind,.slice none 0 0,.int .i64 0]::bytO 5 (TA,tc,tg.row)::bytO 5 (TB,td,tg.qual)::(no ++ os)) z10):=Lib.hid hz;clear hz HX))
   have HX:=HX9
   clear HX9
   refine lt_start [6] (by kernel_rfl) ?_
   intro xd hd
   refine ⟨fun z=>∃ kv,OW w (clipO A1 y.row::clipO B1 y.qual::clipO D1 y.val::boxO ge [.int .i64 0]::boxO gk [.bool kv]::boxO gx [.slice A1 y.row.length y.row.length,.int .i64 y.fam,.slice B1 y.qual.length y.qual.length,.int .i64 y.ts,.int .i64 y.seq,.int .i64 y.kind,.slice D1 y.val.length y.val.length]::boxO gc [.pointer (some ⟨g,0,none⟩)]::boxO g [.pointer (some ⟨rg,0,none⟩),.int .i64 pt,.pointer (some ⟨bg,0,none⟩),.int .i64 ((at':Int) + 1),.bool false,.slice TA tg.row.length tc,.int .i64 tg.fam,.slice TB tg.qual.length td,.int .i64 tg.ts,.int .i64 tg.seq,.int .i64 tg.kind,.slice none 0 0,.int .i64 0]::bytO 5 (TA,tc,tg.row)::bytO 5 (TB,td,tg.qual)::(no ++ os)) z,?_⟩
   have HX9:=Lib.hid (HX.out.later hd)
   have HS:=Lib.hid (show ∃ kv,OW w (clipO A1 y.row::clipO B1 y.qual::clipO D1 y.val::boxO ge [.int .i64 0]::boxO gk [.bool kv]::boxO gx [.slice A1 y.row.length y.row.length,.int .i64 y.fam,.slice B1 y.qual.length y.qual.length,.int .i64 y.ts,.int .i64 y.seq,.int .i64 y.kind,.slice D1 y.val.length y.val.length]::boxO gc [.pointer (some ⟨g,0,none⟩)]::boxO g [.pointer (some ⟨rg,0,none⟩),.int .i64 pt,.pointer (some ⟨bg,0,none⟩),.int .i64 ((at':Int) + 1),.bool false,.slice TA tg.row.length tc,.int .i64 tg.fam,.slice TB tg.qual.length td,.int .i64 tg.ts,.int .i64 tg.seq,.int .i64 tg.kind,.slice none 0 0,.int .i64 0]::bytO 5 (TA,tc,tg.row)::bytO 5 (TB,td,tg.qual)::(no ++ os)) xd from ⟨false,HX.out.later hd⟩)
   refine lq 0 [4,5,6] rfl (yi_rowO rfl rfl rfl (fun w hS=>by obtain ⟨_,h⟩:=hS;exact OW.range h (i:=5) rfl) ent_row5) HS.out ?_
   simp only [Act.put,ls]
   refine lq 1 [2,5,6] rfl (yi_cell rfl rfl rfl (fun w hS=>by obtain ⟨_,h⟩:=hS;exact OW.cell h (i:=3) (j:=0) rfl rfl) Tryz.isAgg42) HS.out ?_
   simp only [Act.put,ls]
   refine lp2 2 rfl (fun _=>HS.out) ?_
   simp only [Act.put,ls]
   refine lq 3 [6] rfl (yi_cell rfl rfl rfl (fun w hS=>by obtain ⟨_,h⟩:=hS;exact OW.cell h (i:=3) (j:=0) rfl rfl) Tryz.isAgg42) HS.out ?_
   simp only [Act.put,ls]
   refine lt_op 4 rfl (by kernel_rfl) rfl ?_
   refine wpo_put rfl HX9.out 5 rfl rfl [.slice A1 y.row.length y.row.length,.int .i64 y.fam,.slice B1 y.qual.length y.qual.length,.int .i64 y.ts,.int .i64 y.seq,.int .i64 y.kind,.slice D1 y.val.length y.val.length] rfl rfl (by kernel_rfl) (by simp [Value.oneCell']) ?_
   intro z9 hz _
   replace HX9:=Lib.hid hz
   clear hz
   replace HS:=Lib.hid (show ∃ kv,OW w (clipO A1 y.row::clipO B1 y.qual::clipO D1 y.val::boxO ge [.int .i64 0]::boxO gk [.bool kv]::boxO gx [.slice A1 y.row.length y.row.length,.int .i64 y.fam,.slice B1 y.qual.length y.qual.length,.int .i64 y.ts,.int .i64 y.seq,.int .i64 y.kind,.slice D1 y.val.length y.val.length]::boxO gc [.pointer (some ⟨g,0,none⟩)]::boxO g [.pointer (some ⟨rg,0,none⟩),.int .i64 pt,.pointer (some ⟨bg,0,none⟩),.int .i64 ((at':Int) + 1),.bool false,.slice TA tg.row.length tc,.int .i64 tg.fam,.slice TB tg.qual.length td,.int .i64 tg.ts,.int .i64 tg.seq,.int .i64 tg.kind,.slice none 0 0,.int .i64 0]::bytO 5 (TA,tc,tg.row)::bytO 5 (TB,td,tg.qual)::(no ++ os)) z9 from ⟨_,HX9.out⟩)
   refine ⟨fun _=>HS.out,?_⟩
   simp only [Act.put]
   refine lt_op 5 rfl (by kernel_rfl) rfl ?_
   refine wpo_put1 rfl HX9.out 4 rfl 0 rfl (by simp) (.bool true) rfl (by kernel_rfl) rfl ?_
   intro z9 hz _
   replace HX9:=Lib.hid hz
   clear hz
   replace HS:=Lib.hid (show ∃ kv,OW w (clipO A1 y.row::clipO B1 y.qual::clipO D1 y.val::boxO ge [.int .i64 0]::boxO gk [.bool kv]::boxO gx [.slice A1 y.row.length y.row.length,.int .i64 y.fam,.slice B1 y.qual.length y.qual.length,.int .i64 y.ts,.int .i64 y.seq,.int .i64 y.kind,.slice D1 y.val.length y.val.length]::boxO gc [.pointer (some ⟨g,0,none⟩)]::boxO g [.pointer (some ⟨rg,0,none⟩),.int .i64 pt,.pointer (some ⟨bg,0,none⟩),.int .i64 ((at':Int) + 1),.bool false,.slice TA tg.row.length tc,.int .i64 tg.fam,.slice TB tg.qual.length td,.int .i64 tg.ts,.int .i64 tg.seq,.int .i64 tg.kind,.slice none 0 0,.int .i64 0]::bytO 5 (TA,tc,tg.row)::bytO 5 (TB,td,tg.qual)::(no ++ os)) z9 from ⟨_,HX9.out⟩)
   refine ⟨fun _=>HS.out,?_⟩
   simp only [Act.put]
   refine lt_end 6 rfl (by kernel_rfl) rfl (by kernel_rfl) ?_
   refine wpo_put1 rfl HX9.out 3 rfl 0 rfl (by simp) (.int .i64 0) rfl (by kernel_rfl) rfl ?_
   intro z9 hz _
   replace HX9:=Lib.hid hz
   clear hz
   simp only [Act.put]
   refine lt_done (by kernel_rfl) ?_
   clear HS
   clear HX
   have HX:Hid (OW w (boxO ge [.int .i64 0]::boxO gk [.bool true]::boxO gx [.slice A1 y.row.length y.row.length,.int .i64 y.fam,.slice B1 y.qual.length y.qual.length,.int .i64 y.ts,.int .i64 y.seq,.int .i64 y.kind,.slice D1 y.val.length y.val.length]::boxO gc [.pointer (some ⟨g,0,none⟩)]::boxO g [.pointer (some ⟨rg,0,none⟩),.int .i64 pt,.pointer (some ⟨bg,0,none⟩),.int .i64 ((at':Int) + 1),.bool false,.slice TA tg.row.length tc,.int .i64 tg.fam,.slice TB tg.qual.length td,.int .i64 tg.ts,.int .i64 tg.seq,.int .i64 tg.kind,.slice none 0 0,.int .i64 0]::clipO A1 y.row::clipO B1 y.qual::clipO D1 y.val::bytO 5 (TA,tc,tg.row)::bytO 5 (TB,td,tg.qual)::(no ++ os)) z9):=Lib.hid (HX9.out.perm (perm_mid9 [clipO A1 y.row,clipO B1 y.qual,clipO D1 y.val] [boxO ge [.int .i64 0],boxO gk [.bool true],boxO gx [.slice A1 y.row.length y.row.length,.int .i64 y.fam,.slice B1 y.qual.length y.qual.length,.int .i64 y.ts,.int .i64 y.seq,.int .i64 y.kind,.slice D1 y.val.length y.val.length],boxO gc [.pointer (some ⟨g,0,none⟩)],boxO g [.pointer (some ⟨rg,0,none⟩),.int .i64 pt,.pointer (some ⟨bg,0,none⟩),.int .i64 ((at':Int) + 1),.bool false,.slice TA tg.row.length tc,.int .i64 tg.fam,.slice TB tg.qual.length td,.int .i64 tg.ts,.int .i64 tg.seq,.int .i64 tg.kind,.slice none 0 0,.int .i64 0]] (bytO 5 (TA,tc,tg.row)::bytO 5 (TB,td,tg.qual)::(no ++ os))))
   clear HX9
   go_wp2_with fail
   refine next_leave rfl rfl HX.out (fun W=>rfl) rfl rfl rfl fun z hz=>?_
   obtain ⟨L',b,h1,h2⟩:=HCRY.out
   exact HPY2.out pt _ nL no (at' + 1) false 0 y L' b A1 B1 D1 z h1 HOK2.out h2 HCA.out.1 HCA.out.2.1 HCA.out.2.2 HCY.out (hz.perm (perm_mid9 [boxO g [.pointer (some ⟨rg,0,none⟩),.int .i64 pt,.pointer (some ⟨bg,0,none⟩),.int .i64 ((at':Int) + 1),.bool false,.slice TA tg.row.length tc,.int .i64 tg.fam,.slice TB tg.qual.length td,.int .i64 tg.ts,.int .i64 tg.seq,.int .i64 tg.kind,.slice none 0 0,.int .i64 0]] [clipO A1 y.row,clipO B1 y.qual,clipO D1 y.val] (bytO 5 (TA,tc,tg.row)::bytO 5 (TB,td,tg.qual)::(no ++ os))))
  have hate:at'=nL.length:=by omega
  have HRE:Hid (cr=restF q.r (skO sk tg) (q.r.ps.drop pt)):=Lib.hid (by
   rw [HCR.out]
   unfold CurR.rest
   dsimp only
   rw [if_neg (by decide),hate,List.drop_length,List.nil_append])
  obtain ⟨ml,hml⟩:∃ m,m=nL.length:=⟨_,rfl⟩
  have HML:=Lib.hid hml.symm
  have hlt2:ml≤at':=by omega
  have HATE:=Lib.hid hate
  have d1:decide ((at':Int) ≥ (ml:Int))=true:=decide_eq_true (by omega)
  have d2:decide (ml≤at')=true:=decide_eq_true hlt2
  have d3:decide ((ml:Int)≤(at':Int))=true:=decide_eq_true (by omega)
  clear hlt hate hml hat hln
  go_upto_region 4 with fail
  go_cut [35] from 19 to 35 (fun bv wx=>bv = .bool true∧Hid (OW w (boxO ge [.int .i64 0]::boxO gk [.bool false]::boxO gx [.slice none 0 0,.int .i64 0,.slice none 0 0,.int .i64 0,.int .i64 0,.int .i64 0,.slice none 0 0]::boxO gc [.pointer (some ⟨g,0,none⟩)]::boxO g [.pointer (some ⟨rg,0,none⟩),.int .i64 pt,nv,.int .i64 at',.bool sk,.slice TA tg.row.length tc,.int .i64 tg.fam,.slice TB tg.qual.length td,.int .i64 tg.ts,.int .i64 tg.seq,.int .i64 tg.kind,.slice none 0 0,.int .i64 0]::bytO 5 (TA,tc,tg.row)::bytO 5 (TB,td,tg.qual)::(no ++ os)) wx))
  case first =>
   rcases HOK.out.now with ⟨hnv,_,_⟩ | ⟨bg,RR,hnv,hbk⟩
   case inl =>
    have hnv:nv = .pointer none:=hnv
    subst hnv
    refine lt_start [] (by kernel_rfl) ?_
    intro xd hd
    refine ⟨fun z=>OW w (boxO ge [.int .i64 0]::boxO gk [.bool false]::boxO gx [.slice none 0 0,.int .i64 0,.slice none 0 0,.int .i64 0,.int .i64 0,.int .i64 0,.slice none 0 0]::boxO gc [.pointer (some ⟨g,0,none⟩)]::boxO g [.pointer (some ⟨rg,0,none⟩),.int .i64 pt,.pointer none,.int .i64 at',.bool sk,.slice TA tg.row.length tc,.int .i64 tg.fam,.slice TB tg.qual.length td,.int .i64 tg.ts,.int .i64 tg.seq,.int .i64 tg.kind,.slice none 0 0,.int .i64 0]::bytO 5 (TA,tc,tg.row)::bytO 5 (TB,td,tg.qual)::(no ++ os)) z,?_⟩
    have HS:=Lib.hid (HX.out.later hd)
    refine lq 0 [1,2,3,4,5,6,7,8,9,10,11,12,13,14,15,16] rfl (yi_cell rfl rfl rfl (fun w hS=>OW.cell hS (i:=3) (j:=0) rfl rfl) Tryz.isAgg74) HS.out ?_
    simp only [Act.put,ls]
    refine lp2 1 rfl (fun _=>HS.out) ?_
    simp only [Act.put,ls]
    refine lp2 2 rfl (fun _=>HS.out) ?_
    simp only [Act.put,ls]
    refine lq 3 [4,5,6,7,8,9,10,11,12,13,14,15,16] rfl (yi_cell rfl rfl rfl (fun w hS=>OW.cell hS (i:=4) (j:=2) rfl rfl) Tryz.isAgg163) HS.out ?_
    simp only [Act.put,ls]
    refine lp2 4 rfl (fun _=>HS.out) ?_
    simp only [Act.put,ls]
    refine lp2 5 rfl (fun _=>HS.out) ?_
    simp only [Act.put,ls]
    refine lk 6 rfl (fun _=>HS.out) ?_
    simp only [Act.put,ls]
    refine lk 7 rfl (fun _=>HS.out) ?_
    simp only [Act.put,ls]
    refine lk 8 rfl (fun _=>HS.out) ?_
    simp only [Act.put,ls]
    refine lk 9 rfl (fun _=>HS.out) ?_
    simp only [Act.put,ls]
    refine lk 10 rfl (fun _=>HS.out) ?_
    simp only [Act.put,ls]
    refine lk 11 rfl (fun _=>HS.out) ?_
    simp only [Act.put,ls]
    refine lk 12 rfl (fun _=>HS.out) ?_
    simp only [Act.put,ls]
    refine lk 13 rfl (fun _=>HS.out) ?_
    simp only [Act.put,ls]
    refine lk 14 rfl (fun _=>HS.out) ?_
    simp only [Act.put,ls]
    refine lk 15 rfl (fun _=>HS.out) ?_
    simp only [Act.put,ls]
    refine lp2 16 rfl (fun _=>HS.out) ?_
    simp only [Act.put,ls]
    refine lt_done (by kernel_rfl) ?_
    have HX9:=HS
    clear HS
    go_wp2_with fail
    go_meet
    exact ⟨rfl,HX9⟩
   case inr =>
    have hnv:nv = .pointer (some ⟨bg,0,none⟩):=hnv
    subst hnv
    have HBK:Hid (Bk5 RR nL bg no):=Lib.hid hbk
    clear hbk
    refine lt_start [] (by kernel_rfl) ?_
    intro xd hd
    refine ⟨fun z=>OW w (boxO ge [.int .i64 0]::boxO gk [.bool false]::boxO gx [.slice none 0 0,.int .i64 0,.slice none 0 0,.int .i64 0,.int .i64 0,.int .i64 0,.slice none 0 0]::boxO gc [.pointer (some ⟨g,0,none⟩)]::boxO g [.pointer (some ⟨rg,0,none⟩),.int .i64 pt,.pointer (some ⟨bg,0,none⟩),.int .i64 at',.bool sk,.slice TA tg.row.length tc,.int .i64 tg.fam,.slice TB tg.qual.length td,.int .i64 tg.ts,.int .i64 tg.seq,.int .i64 tg.kind,.slice none 0 0,.int .i64 0]::bytO 5 (TA,tc,tg.row)::bytO 5 (TB,td,tg.qual)::(no ++ os)) z,?_⟩
    have HS:=Lib.hid (HX.out.later hd)
    refine lq 0 [1,2,3,4,5,6,7,8,9,10,11,12,13,14,15,16] rfl (yi_cell rfl rfl rfl (fun w hS=>OW.cell hS (i:=3) (j:=0) rfl rfl) Tryz.isAgg74) HS.out ?_
    simp only [Act.put,ls]
    refine lp2 1 rfl (fun _=>HS.out) ?_
    simp only [Act.put,ls]
    refine lp2 2 rfl (fun _=>HS.out) ?_
    simp only [Act.put,ls]
    refine lq 3 [4,5,6,7,8,9,10,11,12,13,14,15,16] rfl (yi_cell rfl rfl rfl (fun w hS=>OW.cell hS (i:=4) (j:=2) rfl rfl) Tryz.isAgg163) HS.out ?_
    simp only [Act.put,ls]
    refine lp2 4 rfl (fun _=>HS.out) ?_
    simp only [Act.put,ls]
    refine lp2 5 rfl (fun _=>HS.out) ?_
    simp only [Act.put,ls]
    refine lq 6 [7,8,9,15,16] rfl (yi_cell rfl rfl rfl (fun w hS=>OW.cell hS (i:=3) (j:=0) rfl rfl) Tryz.isAgg74) HS.out ?_
    simp only [Act.put,ls]
    refine lp2 7 rfl (fun _=>HS.out) ?_
    simp only [Act.put,ls]
    refine lp2 8 rfl (fun _=>HS.out) ?_
    simp only [Act.put,ls]
    refine lq 9 [15,16] rfl (yi_cell rfl rfl rfl (fun w hS=>OW.cell hS (i:=4) (j:=3) rfl rfl) Tryz.isAgg3) HS.out ?_
    simp only [Act.put,ls]
    refine lq 10 [11,12,13,14,15,16] rfl (yi_cell rfl rfl rfl (fun w hS=>OW.cell hS (i:=3) (j:=0) rfl rfl) Tryz.isAgg74) HS.out ?_
    simp only [Act.put,ls]
    refine lp2 11 rfl (fun _=>HS.out) ?_
    simp only [Act.put,ls]
    refine lp2 12 rfl (fun _=>HS.out) ?_
    simp only [Act.put,ls]
    refine lq 13 [14,15,16] rfl (yi_cell rfl rfl rfl (fun w hS=>OW.cell hS (i:=4) (j:=2) rfl rfl) Tryz.isAgg163) HS.out ?_
    simp only [Act.put,ls]
    refine lt_call 14 rfl (by kernel_rfl) rfl rfl ⟨_,Tryz.func150,by decide,by kernel_rfl⟩ [.pointer (some ⟨bg,0,none⟩)] rfl ?_
    refine (len_any (HBKR.out _ _ _ _ _ _ _ _ _ _ _ HBK.out _ HS.out)).mono ?_
    rw [HML.out]
    rintro e z8 ⟨rfl,hb⟩
    replace HS:=Lib.hid (HS.out.later hb)
    clear hb
    refine ⟨_,rfl,fun _=>HS.out,?_⟩
    simp only [Act.put,ls]
    refine lp2 15 rfl (fun _=>HS.out) ?_
    simp only [Act.put,ls]
    refine lp2 16 rfl (fun _=>HS.out) ?_
    simp only [Act.put,ls]
    refine lt_done (by kernel_rfl) ?_
    have HX9:=HS
    clear HS
    go_wp2_with fail
    go_meet
    exact ⟨rfl,HX9⟩
  clear HX d1 d2 d3
  obtain ⟨rfl,HX⟩:=hcut
  by_cases hpn:pt=n
  case pos =>
   have e1:decide ((pt:Int) ≥ (n:Int))=true:=decide_eq_true (by omega)
   have e2:decide (n≤pt)=true:=decide_eq_true (by omega)
   have e3:n≤pt:=by omega
   have HCT:Hid (cr=([],true)):=Lib.hid (by
    rw [HRE.out,hpn,HN.out,List.drop_length]
    cases sk <;> rfl)
   have HRT:Hid (CurR.rest ⟨g,pt,nv,nL,no,at',sk,tg,TA,tc,TB,td,0⟩ q.r=([],true)):=Lib.hid (by rw [← HCR.out];exact HCT.out)
   clear hpn
   go_wp2_with fail
   refine lt_start [] (by kernel_rfl) ?_
   intro xd hd
   refine ⟨fun z=>OW w (boxO ge [.int .i64 0]::boxO gk [.bool false]::boxO gx [.slice none 0 0,.int .i64 0,.slice none 0 0,.int .i64 0,.int .i64 0,.int .i64 0,.slice none 0 0]::boxO gc [.pointer (some ⟨g,0,none⟩)]::boxO g [.pointer (some ⟨rg,0,none⟩),.int .i64 pt,nv,.int .i64 at',.bool sk,.slice TA tg.row.length tc,.int .i64 tg.fam,.slice TB tg.qual.length td,.int .i64 tg.ts,.int .i64 tg.seq,.int .i64 tg.kind,.slice none 0 0,.int .i64 0]::bytO 5 (TA,tc,tg.row)::bytO 5 (TB,td,tg.qual)::(no ++ os)) z,?_⟩
   have HS:=Lib.hid (HX.out.later hd)
   refine lq 0 [1,2,3,12] rfl (yi_cell rfl rfl rfl (fun w hS=>OW.cell hS (i:=3) (j:=0) rfl rfl) Tryz.isAgg74) HS.out ?_
   simp only [Act.put,ls]
   refine lp2 1 rfl (fun _=>HS.out) ?_
   simp only [Act.put,ls]
   refine lp2 2 rfl (fun _=>HS.out) ?_
   simp only [Act.put,ls]
   refine lq 3 [12] rfl (yi_cell rfl rfl rfl (fun w hS=>OW.cell hS (i:=4) (j:=1) rfl rfl) Tryz.isAgg3) HS.out ?_
   simp only [Act.put,ls]
   refine lq 4 [5,6,7,8,9,10,11,12] rfl (yi_cell rfl rfl rfl (fun w hS=>OW.cell hS (i:=3) (j:=0) rfl rfl) Tryz.isAgg74) HS.out ?_
   simp only [Act.put,ls]
   refine lp2 5 rfl (fun _=>HS.out) ?_
   simp only [Act.put,ls]
   refine lp2 6 rfl (fun _=>HS.out) ?_
   simp only [Act.put,ls]
   refine lq 7 [8,9,10,11,12] rfl (yi_cell rfl rfl rfl (fun w hS=>OW.cell hS (i:=4) (j:=0) rfl rfl) Tryz.isAgg41) HS.out ?_
   simp only [Act.put,ls]
   refine lp2 8 rfl (fun _=>HS.out) ?_
   simp only [Act.put,ls]
   refine lp2 9 rfl (fun _=>HS.out) ?_
   simp only [Act.put,ls]
   refine lq 10 [11,12] rfl (yi_cell rfl rfl rfl (fun w hS=>HC9.out _ (HRA7.out _ _ _ _ _ _ _ _ _ hS)) Tryz.isAgg133) HS.out ?_
   simp only [Act.put,ls]
   refine lp2 11 rfl (fun _=>HS.out) ?_
   simp only [Act.put,ls]
   refine lp2 12 rfl (fun _=>HS.out) ?_
   simp only [Act.put,ls]
   refine lt_done (by kernel_rfl) ?_
   have HX9:=HS
   clear HS
   clear HX
   have HX:=HX9
   clear HX9
   go_wp2_with (first
    | (refine wpList_load_row7 rfl 60 (.tmp 2) rfl rfl (HX.out.range (i:=2) rfl) ent_row5 ?_)
    | (refine wl_put rfl (.tmp 2) (.tmp 49) rfl HX.out 2 rfl rfl [.slice none 0 0,.int .i64 0,.slice none 0 0,.int .i64 0,.int .i64 0,.int .i64 0,.slice none 0 0] rfl rfl (by kernel_rfl) (by simp [Value.oneCell']) ?_;intro v1 hz _;have HX1:Hid (OW w (boxO ge [.int .i64 0]::boxO gk [.bool false]::boxO gx [.slice none 0 0,.int .i64 0,.slice none 0 0,.int .i64 0,.int .i64 0,.int .i64 0,.slice none 0 0]::boxO gc [.pointer (some ⟨g,0,none⟩)]::boxO g [.pointer (some ⟨rg,0,none⟩),.int .i64 pt,nv,.int .i64 at',.bool sk,.slice TA tg.row.length tc,.int .i64 tg.fam,.slice TB tg.qual.length td,.int .i64 tg.ts,.int .i64 tg.seq,.int .i64 tg.kind,.slice none 0 0,.int .i64 0]::bytO 5 (TA,tc,tg.row)::bytO 5 (TB,td,tg.qual)::(no ++ os)) v1):=Lib.hid hz;clear hz HX)
    | (refine wl_put1 rfl (.tmp 3) (.const (.bool false)) rfl HX1.out 1 rfl 0 rfl (by simp) (.bool false) rfl (by kernel_rfl) rfl ?_;intro v2 hz _;have HX2:Hid (OW w (boxO ge [.int .i64 0]::boxO gk [.bool false]::boxO gx [.slice none 0 0,.int .i64 0,.slice none 0 0,.int .i64 0,.int .i64 0,.int .i64 0,.slice none 0 0]::boxO gc [.pointer (some ⟨g,0,none⟩)]::boxO g [.pointer (some ⟨rg,0,none⟩),.int .i64 pt,nv,.int .i64 at',.bool sk,.slice TA tg.row.length tc,.int .i64 tg.fam,.slice TB tg.qual.length td,.int .i64 tg.ts,.int .i64 tg.seq,.int .i64 tg.kind,.slice none 0 0,.int .i64 0]::bytO 5 (TA,tc,tg.row)::bytO 5 (TB,td,tg.qual)::(no ++ os)) v2):=Lib.hid hz;clear hz HX1)
    | (refine wl_put1 rfl (.tmp 4) (.const (.int .i64 0)) rfl HX2.out 0 rfl 0 rfl (by simp) (.int .i64 0) rfl (by kernel_rfl) rfl ?_;intro v3 hz _;have HX:Hid (OW w (boxO ge [.int .i64 0]::boxO gk [.bool false]::boxO gx [.slice none 0 0,.int .i64 0,.slice none 0 0,.int .i64 0,.int .i64 0,.int .i64 0,.slice none 0 0]::boxO gc [.pointer (some ⟨g,0,none⟩)]::boxO g [.pointer (some ⟨rg,0,none⟩),.int .i64 pt,nv,.int .i64 at',.bool sk,.slice TA tg.row.length tc,.int .i64 tg.fam,.slice TB tg.qual.length td,.int .i64 tg.ts,.int .i64 tg.seq,.int .i64 tg.kind,.slice none 0 0,.int .i64 0]::bytO 5 (TA,tc,tg.row)::bytO 5 (TB,td,tg.qual)::(no ++ os)) v3):=Lib.hid hz;clear hz HX2))
   refine next_leave rfl rfl HX.out (fun W=>rfl) rfl rfl rfl fun z hz=>?_
   exact HPN2.out pt nv nL no at' sk 0 true z HCT.out HOK.out HRT.out hz
  have hpt2:pt < n:=by omega
  have e1:decide ((pt:Int) ≥ (n:Int))=false:=decide_eq_false (by omega)
  have e2:decide (n≤pt)=false:=decide_eq_false (by omega)
  have e3:¬ n≤pt:=by omega
  obtain ⟨r,hr⟩:∃ r,q.rs[pt]?=some r:=⟨_,List.getElem?_eq_getElem (by rw [HF.out.len,← HN.out];exact hpt2)⟩
  have HR:=Lib.hid hr
  have HDP:Hid (q.r.ps.drop pt=r.p::q.r.ps.drop (pt + 1)):=Lib.hid (by
   obtain ⟨hl,he⟩:=List.getElem?_eq_some_iff.1 (HF.out.at_ hr)
   rw [List.drop_eq_getElem_cons hl,he])
  clear hr hpn
  go_wp2_with fail
  refine lt_start [] (by kernel_rfl) ?_
  intro xd hd
  refine ⟨fun z=>OW w (boxO ge [.int .i64 0]::boxO gk [.bool false]::boxO gx [.slice none 0 0,.int .i64 0,.slice none 0 0,.int .i64 0,.int .i64 0,.int .i64 0,.slice none 0 0]::boxO gc [.pointer (some ⟨g,0,none⟩)]::boxO g [.pointer (some ⟨rg,0,none⟩),.int .i64 pt,nv,.int .i64 at',.bool sk,.slice TA tg.row.length tc,.int .i64 tg.fam,.slice TB tg.qual.length td,.int .i64 tg.ts,.int .i64 tg.seq,.int .i64 tg.kind,.slice none 0 0,.int .i64 0]::bytO 5 (TA,tc,tg.row)::bytO 5 (TB,td,tg.qual)::(no ++ os)) z,?_⟩
  have HS:=Lib.hid (HX.out.later hd)
  refine lq 0 [1,2,3,12] rfl (yi_cell rfl rfl rfl (fun w hS=>OW.cell hS (i:=3) (j:=0) rfl rfl) Tryz.isAgg74) HS.out ?_
  simp only [Act.put,ls]
  refine lp2 1 rfl (fun _=>HS.out) ?_
  simp only [Act.put,ls]
  refine lp2 2 rfl (fun _=>HS.out) ?_
  simp only [Act.put,ls]
  refine lq 3 [12] rfl (yi_cell rfl rfl rfl (fun w hS=>OW.cell hS (i:=4) (j:=1) rfl rfl) Tryz.isAgg3) HS.out ?_
  simp only [Act.put,ls]
  refine lq 4 [5,6,7,8,9,10,11,12] rfl (yi_cell rfl rfl rfl (fun w hS=>OW.cell hS (i:=3) (j:=0) rfl rfl) Tryz.isAgg74) HS.out ?_
  simp only [Act.put,ls]
  refine lp2 5 rfl (fun _=>HS.out) ?_
  simp only [Act.put,ls]
  refine lp2 6 rfl (fun _=>HS.out) ?_
  simp only [Act.put,ls]
  refine lq 7 [8,9,10,11,12] rfl (yi_cell rfl rfl rfl (fun w hS=>OW.cell hS (i:=4) (j:=0) rfl rfl) Tryz.isAgg41) HS.out ?_
  simp only [Act.put,ls]
  refine lp2 8 rfl (fun _=>HS.out) ?_
  simp only [Act.put,ls]
  refine lp2 9 rfl (fun _=>HS.out) ?_
  simp only [Act.put,ls]
  refine lq 10 [11,12] rfl (yi_cell rfl rfl rfl (fun w hS=>HC9.out _ (HRA7.out _ _ _ _ _ _ _ _ _ hS)) Tryz.isAgg133) HS.out ?_
  simp only [Act.put,ls]
  refine lp2 11 rfl (fun _=>HS.out) ?_
  simp only [Act.put,ls]
  refine lp2 12 rfl (fun _=>HS.out) ?_
  simp only [Act.put,ls]
  refine lt_done (by kernel_rfl) ?_
  have HX9:=HS
  clear HS
  clear HX
  have HX:=HX9
  clear HX9
  go_wp2_with fail
  cases hbr:blkR q.r r.p with
  | none =>
   have HBR:=Lib.hid hbr
   have HCT:Hid (cr=([],false)):=Lib.hid (by rw [HRE.out,HDP.out,restF_bad hbr])
   clear hbr
   refine lt_start [] (by kernel_rfl) ?_
   intro xd hd
   refine ⟨fun z=>OW w (boxO ge [.int .i64 0]::boxO gk [.bool false]::boxO gx [.slice none 0 0,.int .i64 0,.slice none 0 0,.int .i64 0,.int .i64 0,.int .i64 0,.slice none 0 0]::boxO gc [.pointer (some ⟨g,0,none⟩)]::boxO g [.pointer (some ⟨rg,0,none⟩),.int .i64 pt,nv,.int .i64 at',.bool sk,.slice TA tg.row.length tc,.int .i64 tg.fam,.slice TB tg.qual.length td,.int .i64 tg.ts,.int .i64 tg.seq,.int .i64 tg.kind,.slice none 0 0,.int .i64 0]::bytO 5 (TA,tc,tg.row)::bytO 5 (TB,td,tg.qual)::(no ++ os)) z,?_⟩
   have HS:=Lib.hid (HX.out.later hd)
   refine lq 0 [1,2,3,8,9] rfl (yi_cell rfl rfl rfl (fun w hS=>OW.cell hS (i:=3) (j:=0) rfl rfl) Tryz.isAgg74) HS.out ?_
   simp only [Act.put,ls]
   refine lp2 1 rfl (fun _=>HS.out) ?_
   simp only [Act.put,ls]
   refine lp2 2 rfl (fun _=>HS.out) ?_
   simp only [Act.put,ls]
   refine lq 3 [8,9] rfl (yi_cell rfl rfl rfl (fun w hS=>OW.cell hS (i:=4) (j:=0) rfl rfl) Tryz.isAgg41) HS.out ?_
   simp only [Act.put,ls]
   refine lq 4 [5,6,7,8,9] rfl (yi_cell rfl rfl rfl (fun w hS=>OW.cell hS (i:=3) (j:=0) rfl rfl) Tryz.isAgg74) HS.out ?_
   simp only [Act.put,ls]
   refine lp2 5 rfl (fun _=>HS.out) ?_
   simp only [Act.put,ls]
   refine lp2 6 rfl (fun _=>HS.out) ?_
   simp only [Act.put,ls]
   refine lq 7 [8,9] rfl (yi_cell rfl rfl rfl (fun w hS=>OW.cell hS (i:=4) (j:=1) rfl rfl) Tryz.isAgg3) HS.out ?_
   simp only [Act.put,ls]
   refine lt_call 8 rfl (by kernel_rfl) rfl rfl ⟨_,Tryz.func85,by decide,by kernel_rfl⟩ [.pointer (some ⟨rg,0,none⟩),.int .i64 pt] rfl ?_
   refine (load_no HRG.out (HRA7.out _ _ _ _ _ _ _ _ _ HS.out) HR.out (HF.out.pin HR.out) (HTB.out _ HS.out.up) HBR.out).mono ?_
   rintro e z8 ⟨rfl,hb⟩
   replace HS:=Lib.hid (HS.out.later hb)
   clear hb
   refine ⟨_,rfl,fun _=>HS.out,?_⟩
   simp only [Act.put,ls]
   refine lp2 9 rfl (fun _=>HS.out) ?_
   simp only [Act.put,ls]
   refine lt_done (by kernel_rfl) ?_
   have HX9:=HS
   clear HS
   clear HX
   have HX:=HX9
   clear HX9
   go_wp2_with (first
    | (refine wpList_load_row7 rfl 60 (.tmp 2) rfl rfl (HX.out.range (i:=2) rfl) ent_row5 ?_)
    | (refine wl_put rfl (.tmp 2) (.tmp 61) rfl HX.out 2 rfl rfl [.slice none 0 0,.int .i64 0,.slice none 0 0,.int .i64 0,.int .i64 0,.int .i64 0,.slice none 0 0] rfl rfl (by kernel_rfl) (by simp [Value.oneCell']) ?_;intro v1 hz _;have HX1:Hid (OW w (boxO ge [.int .i64 0]::boxO gk [.bool false]::boxO gx [.slice none 0 0,.int .i64 0,.slice none 0 0,.int .i64 0,.int .i64 0,.int .i64 0,.slice none 0 0]::boxO gc [.pointer (some ⟨g,0,none⟩)]::boxO g [.pointer (some ⟨rg,0,none⟩),.int .i64 pt,nv,.int .i64 at',.bool sk,.slice TA tg.row.length tc,.int .i64 tg.fam,.slice TB tg.qual.length td,.int .i64 tg.ts,.int .i64 tg.seq,.int .i64 tg.kind,.slice none 0 0,.int .i64 0]::bytO 5 (TA,tc,tg.row)::bytO 5 (TB,td,tg.qual)::(no ++ os)) v1):=Lib.hid hz;clear hz HX)
    | (refine wl_put1 rfl (.tmp 3) (.const (.bool false)) rfl HX1.out 1 rfl 0 rfl (by simp) (.bool false) rfl (by kernel_rfl) rfl ?_;intro v2 hz _;have HX2:Hid (OW w (boxO ge [.int .i64 0]::boxO gk [.bool false]::boxO gx [.slice none 0 0,.int .i64 0,.slice none 0 0,.int .i64 0,.int .i64 0,.int .i64 0,.slice none 0 0]::boxO gc [.pointer (some ⟨g,0,none⟩)]::boxO g [.pointer (some ⟨rg,0,none⟩),.int .i64 pt,nv,.int .i64 at',.bool sk,.slice TA tg.row.length tc,.int .i64 tg.fam,.slice TB tg.qual.length td,.int .i64 tg.ts,.int .i64 tg.seq,.int .i64 tg.kind,.slice none 0 0,.int .i64 0]::bytO 5 (TA,tc,tg.row)::bytO 5 (TB,td,tg.qual)::(no ++ os)) v2):=Lib.hid hz;clear hz HX1)
    | (refine wl_put1 rfl (.tmp 4) (.const (.int .i64 73)) rfl HX2.out 0 rfl 0 rfl (by simp) (.int .i64 73) rfl (by kernel_rfl) rfl ?_;intro v3 hz _;have HX:Hid (OW w (boxO ge [.int .i64 73]::boxO gk [.bool false]::boxO gx [.slice none 0 0,.int .i64 0,.slice none 0 0,.int .i64 0,.int .i64 0,.int .i64 0,.slice none 0 0]::boxO gc [.pointer (some ⟨g,0,none⟩)]::boxO g [.pointer (some ⟨rg,0,none⟩),.int .i64 pt,nv,.int .i64 at',.bool sk,.slice TA tg.row.length tc,.int .i64 tg.fam,.slice TB tg.qual.length td,.int .i64 tg.ts,.int .i64 tg.seq,.int .i64 tg.kind,.slice none 0 0,.int .i64 0]::bytO 5 (TA,tc,tg.row)::bytO 5 (TB,td,tg.qual)::(no ++ os)) v3):=Lib.hid hz;clear hz HX2))
   refine next_leave rfl rfl HX.out (fun W=>rfl) rfl rfl rfl fun z hz=>?_
   exact HPN2.out pt nv nL no at' sk 73 false z HCT.out ⟨HOK.out.now,HOK.out.pt,HOK.out.at_,HOK.out.skp,HOK.out.chk,HOK.out.len,HOK.out.val,.inr rfl⟩ (if_pos (show (73:Int) ≠ 0 by decide)) hz
  | some L =>
   have HBR:=Lib.hid hbr
   have HBF:=Lib.hid (blkR_facts hbr)
   have HLL:=Lib.hid (blkR_len hbr)
   clear hbr
   refine lt_start [] (by kernel_rfl) ?_
   intro xd hd
   refine ⟨fun z=>OW w (boxO ge [.int .i64 0]::boxO gk [.bool false]::boxO gx [.slice none 0 0,.int .i64 0,.slice none 0 0,.int .i64 0,.int .i64 0,.int .i64 0,.slice none 0 0]::boxO gc [.pointer (some ⟨g,0,none⟩)]::boxO g [.pointer (some ⟨rg,0,none⟩),.int .i64 pt,nv,.int .i64 at',.bool sk,.slice TA tg.row.length tc,.int .i64 tg.fam,.slice TB tg.qual.length td,.int .i64 tg.ts,.int .i64 tg.seq,.int .i64 tg.kind,.slice none 0 0,.int .i64 0]::bytO 5 (TA,tc,tg.row)::bytO 5 (TB,td,tg.qual)::(no ++ os)) z,?_⟩
   have HS:=Lib.hid (HX.out.later hd)
   refine lq 0 [1,2,3,8,9] rfl (yi_cell rfl rfl rfl (fun w hS=>OW.cell hS (i:=3) (j:=0) rfl rfl) Tryz.isAgg74) HS.out ?_
   simp only [Act.put,ls]
   refine lp2 1 rfl (fun _=>HS.out) ?_
   simp only [Act.put,ls]
   refine lp2 2 rfl (fun _=>HS.out) ?_
   simp only [Act.put,ls]
   refine lq 3 [8,9] rfl (yi_cell rfl rfl rfl (fun w hS=>OW.cell hS (i:=4) (j:=0) rfl rfl) Tryz.isAgg41) HS.out ?_
   simp only [Act.put,ls]
   refine lq 4 [5,6,7,8,9] rfl (yi_cell rfl rfl rfl (fun w hS=>OW.cell hS (i:=3) (j:=0) rfl rfl) Tryz.isAgg74) HS.out ?_
   simp only [Act.put,ls]
   refine lp2 5 rfl (fun _=>HS.out) ?_
   simp only [Act.put,ls]
   refine lp2 6 rfl (fun _=>HS.out) ?_
   simp only [Act.put,ls]
   refine lq 7 [8,9] rfl (yi_cell rfl rfl rfl (fun w hS=>OW.cell hS (i:=4) (j:=1) rfl rfl) Tryz.isAgg3) HS.out ?_
   simp only [Act.put,ls]
   refine lt_call 8 rfl (by kernel_rfl) rfl rfl ⟨_,Tryz.func85,by decide,by kernel_rfl⟩ [.pointer (some ⟨rg,0,none⟩),.int .i64 pt] rfl ?_
   refine (load_yes HRG.out (HRA7.out _ _ _ _ _ _ _ _ _ HS.out) HR.out (HF.out.pin HR.out) (HTB.out _ HS.out.up) HBR.out).mono ?_
   rintro e z8 ⟨RR,bg,os2,rfl,hbk,hos⟩
   have HBK:=Lib.hid hbk
   have HX8:Hid (OW w (boxO ge [.int .i64 0]::boxO gk [.bool false]::boxO gx [.slice none 0 0,.int .i64 0,.slice none 0 0,.int .i64 0,.int .i64 0,.int .i64 0,.slice none 0 0]::boxO gc [.pointer (some ⟨g,0,none⟩)]::boxO g [.pointer (some ⟨rg,0,none⟩),.int .i64 pt,nv,.int .i64 at',.bool sk,.slice TA tg.row.length tc,.int .i64 tg.fam,.slice TB tg.qual.length td,.int .i64 tg.ts,.int .i64 tg.seq,.int .i64 tg.kind,.slice none 0 0,.int .i64 0]::bytO 5 (TA,tc,tg.row)::bytO 5 (TB,td,tg.qual)::(os2 ++ os)) z8):=Lib.hid (swap_no (A:=[boxO ge [.int .i64 0],boxO gk [.bool false],boxO gx [.slice none 0 0,.int .i64 0,.slice none 0 0,.int .i64 0,.int .i64 0,.int .i64 0,.slice none 0 0],boxO gc [.pointer (some ⟨g,0,none⟩)],boxO g [.pointer (some ⟨rg,0,none⟩),.int .i64 pt,nv,.int .i64 at',.bool sk,.slice TA tg.row.length tc,.int .i64 tg.fam,.slice TB tg.qual.length td,.int .i64 tg.ts,.int .i64 tg.seq,.int .i64 tg.kind,.slice none 0 0,.int .i64 0],bytO 5 (TA,tc,tg.row),bytO 5 (TB,td,tg.qual)]) (B:=no) (C:=os) HS.out hos)
   replace HS:=Lib.hid (HS.out.later hos.up)
   clear hbk hos
   refine ⟨_,rfl,fun _=>HS.out,?_⟩
   simp only [Act.put,ls]
   refine lp2 9 rfl (fun _=>HS.out) ?_
   simp only [Act.put,ls]
   refine lt_done (by kernel_rfl) ?_
   have HX9:=HS
   clear HS
   clear HX HX9
   have HX:=HX8
   clear HX8
   go_upto_region 10 with fail
   refine lt_start [8] (by kernel_rfl) ?_
   intro xd hd
   refine ⟨fun z=>∃ nv2,OW w (boxO ge [.int .i64 0]::boxO gk [.bool false]::boxO gx [.slice none 0 0,.int .i64 0,.slice none 0 0,.int .i64 0,.int .i64 0,.int .i64 0,.slice none 0 0]::boxO gc [.pointer (some ⟨g,0,none⟩)]::boxO g [.pointer (some ⟨rg,0,none⟩),.int .i64 pt,nv2,.int .i64 at',.bool sk,.slice TA tg.row.length tc,.int .i64 tg.fam,.slice TB tg.qual.length td,.int .i64 tg.ts,.int .i64 tg.seq,.int .i64 tg.kind,.slice none 0 0,.int .i64 0]::bytO 5 (TA,tc,tg.row)::bytO 5 (TB,td,tg.qual)::(os2 ++ os)) z,?_⟩
   have HX9:=Lib.hid (HX.out.later hd)
   have HS:=Lib.hid (show ∃ nv2,OW w (boxO ge [.int .i64 0]::boxO gk [.bool false]::boxO gx [.slice none 0 0,.int .i64 0,.slice none 0 0,.int .i64 0,.int .i64 0,.int .i64 0,.slice none 0 0]::boxO gc [.pointer (some ⟨g,0,none⟩)]::boxO g [.pointer (some ⟨rg,0,none⟩),.int .i64 pt,nv2,.int .i64 at',.bool sk,.slice TA tg.row.length tc,.int .i64 tg.fam,.slice TB tg.qual.length td,.int .i64 tg.ts,.int .i64 tg.seq,.int .i64 tg.kind,.slice none 0 0,.int .i64 0]::bytO 5 (TA,tc,tg.row)::bytO 5 (TB,td,tg.qual)::(os2 ++ os)) xd from ⟨nv,HX.out.later hd⟩)
   refine lq 0 [3,4,5,6,7,8] rfl (yi_cell rfl rfl rfl (fun w hS=>by obtain ⟨_,h⟩:=hS;exact OW.cell h (i:=3) (j:=0) rfl rfl) Tryz.isAgg74) HS.out ?_
   simp only [Act.put,ls]
   refine lq 1 [6,7,8] rfl (yi_cell rfl rfl rfl (fun w hS=>by obtain ⟨_,h⟩:=hS;exact OW.cell h (i:=3) (j:=0) rfl rfl) Tryz.isAgg74) HS.out ?_
   simp only [Act.put,ls]
   refine lp2 2 rfl (fun _=>HS.out) ?_
   simp only [Act.put,ls]
   refine lp2 3 rfl (fun _=>HS.out) ?_
   simp only [Act.put,ls]
   refine lp2 4 rfl (fun _=>HS.out) ?_
   simp only [Act.put,ls]
   refine lt_op 5 rfl (by kernel_rfl) rfl ?_
   refine wpo_put1 rfl HX9.out 4 rfl 2 rfl (by simp) (.pointer (some ⟨bg,0,none⟩)) rfl (by kernel_rfl) rfl ?_
   intro z9 hz _
   replace HX9:=Lib.hid hz
   clear hz
   replace HS:=Lib.hid (show ∃ nv2,OW w (boxO ge [.int .i64 0]::boxO gk [.bool false]::boxO gx [.slice none 0 0,.int .i64 0,.slice none 0 0,.int .i64 0,.int .i64 0,.int .i64 0,.slice none 0 0]::boxO gc [.pointer (some ⟨g,0,none⟩)]::boxO g [.pointer (some ⟨rg,0,none⟩),.int .i64 pt,nv2,.int .i64 at',.bool sk,.slice TA tg.row.length tc,.int .i64 tg.fam,.slice TB tg.qual.length td,.int .i64 tg.ts,.int .i64 tg.seq,.int .i64 tg.kind,.slice none 0 0,.int .i64 0]::bytO 5 (TA,tc,tg.row)::bytO 5 (TB,td,tg.qual)::(os2 ++ os)) z9 from ⟨_,HX9.out⟩)
   refine ⟨fun _=>HS.out,?_⟩
   simp only [Act.put]
   refine lp2 6 rfl (fun _=>HS.out) ?_
   simp only [Act.put,ls]
   refine lp2 7 rfl (fun _=>HS.out) ?_
   simp only [Act.put,ls]
   refine lt_end 8 rfl (by kernel_rfl) rfl (by kernel_rfl) ?_
   refine wpo_put1 rfl HX9.out 4 rfl 3 rfl (by simp) (.int .i64 0) rfl (by kernel_rfl) rfl ?_
   intro z9 hz _
   replace HX9:=Lib.hid hz
   clear hz
   simp only [Act.put]
   refine lt_done (by kernel_rfl) ?_
   clear HS
   clear HX
   have HX:Hid (OW w (boxO ge [.int .i64 0]::boxO gk [.bool false]::boxO gx [.slice none 0 0,.int .i64 0,.slice none 0 0,.int .i64 0,.int .i64 0,.int .i64 0,.slice none 0 0]::boxO gc [.pointer (some ⟨g,0,none⟩)]::boxO g [.pointer (some ⟨rg,0,none⟩),.int .i64 pt,.pointer (some ⟨bg,0,none⟩),.int .i64 0,.bool sk,.slice TA tg.row.length tc,.int .i64 tg.fam,.slice TB tg.qual.length td,.int .i64 tg.ts,.int .i64 tg.seq,.int .i64 tg.kind,.slice none 0 0,.int .i64 0]::bytO 5 (TA,tc,tg.row)::bytO 5 (TB,td,tg.qual)::(os2 ++ os)) z9):=HX9
   clear HX9
   have s1:IntKind.i64.wrap ((pt:Int) + 1)=(pt:Int) + 1:=i64_sum (by omega) (by omega)
   go_wp2_with (first
    | (refine wpList_load_cell rfl 74 (.tmp 1) rfl rfl (HX.out.cell (i:=3) (j:=0) rfl rfl) Tryz.isAgg74 ?_)
    | (refine wpList_load_cell rfl 3 (.tmp 71) rfl rfl (HX.out.cell (i:=4) (j:=1) rfl rfl) Tryz.isAgg3 ?_)
    | (refine wl_put1 rfl (.tmp 75) (.tmp 73) rfl HX.out 4 rfl 1 rfl (by simp) (.int .i64 ((pt:Int) + 1)) rfl (by kernel_rfl) rfl ?_;intro z10 hz _;have HX9:Hid (OW w (boxO ge [.int .i64 0]::boxO gk [.bool false]::boxO gx [.slice none 0 0,.int .i64 0,.slice none 0 0,.int .i64 0,.int .i64 0,.int .i64 0,.slice none 0 0]::boxO gc [.pointer (some ⟨g,0,none⟩)]::boxO g [.pointer (some ⟨rg,0,none⟩),.int .i64 ((pt:Int) + 1),.pointer (some ⟨bg,0,none⟩),.int .i64 0,.bool sk,.slice TA tg.row.length tc,.int .i64 tg.fam,.slice TB tg.qual.length td,.int .i64 tg.ts,.int .i64 tg.seq,.int .i64 tg.kind,.slice none 0 0,.int .i64 0]::bytO 5 (TA,tc,tg.row)::bytO 5 (TB,td,tg.qual)::(os2 ++ os)) z10):=Lib.hid hz;clear hz HX))
   have HX:=HX9
   clear HX9 s1
   simp only [Act.put]
   obtain ⟨N,hN⟩:∃ m,m=twN (fun x=>decide (cmpE x tg < 0)) L:=⟨_,rfl⟩
   have hNL:N≤L.length:=by rw [hN];exact twN_le _ _
   have HNN:=Lib.hid hN
   have HSKP:Hid (skipE tg L=L.drop N):=Lib.hid (by rw [hN];exact skip_drop)
   obtain ⟨ll,hll⟩:∃ m,m=L.length:=⟨_,rfl⟩
   have HLE:=Lib.hid hll
   rw [← hll] at hNL
   have hll2:ll≤131072:=by rw [hll];exact HLL.out
   have HVL:Hid (∀ e,e ∈ L→e.row.length≤140737488355000∧e.qual.length≤140737488355000∧e.val.length≤140737488355000):=Lib.hid fun e he=>ok_lens (HBF.out.chk e he)
   clear hN hll
   obtain ⟨wo,rfl⟩:∃ z:World,z=wr:=⟨_,rfl⟩
   go_loopw [6] (fun _ wr=>∃ a:Nat,a≤N∧Hid (sk=false→a=0)∧Hid (OW w (boxO ge [.int .i64 0]::boxO gk [.bool false]::boxO gx [.slice none 0 0,.int .i64 0,.slice none 0 0,.int .i64 0,.int .i64 0,.int .i64 0,.slice none 0 0]::boxO gc [.pointer (some ⟨g,0,none⟩)]::boxO g [.pointer (some ⟨rg,0,none⟩),.int .i64 ((pt:Int) + 1),.pointer (some ⟨bg,0,none⟩),.int .i64 a,.bool sk,.slice TA tg.row.length tc,.int .i64 tg.fam,.slice TB tg.qual.length td,.int .i64 tg.ts,.int .i64 tg.seq,.int .i64 tg.kind,.slice none 0 0,.int .i64 0]::bytO 5 (TA,tc,tg.row)::bytO 5 (TB,td,tg.qual)::(os2 ++ os)) wr)) (fun _ wr=>ll - atM g wr)
   case atStart=>exact ⟨0,Nat.zero_le _,Lib.hid fun _=>rfl,HX⟩
   case round =>
    clear HX
    obtain ⟨a,haN,HA0,HX⟩:=hrel
    have HAM:Hid (atM g wr=a):=Lib.hid (atM_of (HX.out.cell (i:=4) (j:=3) rfl rfl))
    have HPM2:∀ z (v:Value) sk2,OW w (boxO ge [.int .i64 0]::boxO gk [.bool false]::boxO gx [.slice none 0 0,.int .i64 0,.slice none 0 0,.int .i64 0,.int .i64 0,.int .i64 0,.slice none 0 0]::boxO gc [.pointer (some ⟨g,0,none⟩)]::boxO g [.pointer (some ⟨rg,0,none⟩),.int .i64 ((pt:Int) + 1),.pointer (some ⟨bg,0,none⟩),v,.bool sk2,.slice TA tg.row.length tc,.int .i64 tg.fam,.slice TB tg.qual.length td,.int .i64 tg.ts,.int .i64 tg.seq,.int .i64 tg.kind,.slice none 0 0,.int .i64 0]::bytO 5 (TA,tc,tg.row)::bytO 5 (TB,td,tg.qual)::(os2 ++ os)) z→ptM g z=pt + 1:=fun z v sk2 hz=>ptM_of (hz.cell (i:=4) (j:=1) rfl rfl)
    have HPM3:=Lib.hid HPM2
    clear HPM2
    cases sk with
    | false =>
     obtain rfl:a=0:=HA0.out rfl
     have HOKN:Hid (CurR.Ok ⟨g,pt + 1,.pointer (some ⟨bg,0,none⟩),L,os2,0,false,tg,TA,tc,TB,td,0⟩ q.r):=Lib.hid ⟨.inr ⟨bg,RR,rfl,HBK.out⟩,(by show pt + 1≤_;rw [← HN.out];omega),Nat.zero_le _,(fun h=>by cases h),HBF.out.chk,HLL.out,HVAL.out,.inl rfl⟩
     have HCRN:Hid (cr=CurR.rest ⟨g,pt + 1,.pointer (some ⟨bg,0,none⟩),L,os2,0,false,tg,TA,tc,TB,td,0⟩ q.r):=Lib.hid (by
      rw [HRE.out,HDP.out]
      show restF q.r none (r.p::_)=_
      rw [restF_none HBR.out]
      rfl)
     go_upto_region 12 with fail
     refine lt_start [] (by kernel_rfl) ?_
     intro xd hd
     refine ⟨fun z=>OW w (boxO ge [.int .i64 0]::boxO gk [.bool false]::boxO gx [.slice none 0 0,.int .i64 0,.slice none 0 0,.int .i64 0,.int .i64 0,.int .i64 0,.slice none 0 0]::boxO gc [.pointer (some ⟨g,0,none⟩)]::boxO g [.pointer (some ⟨rg,0,none⟩),.int .i64 ((pt:Int) + 1),.pointer (some ⟨bg,0,none⟩),.int .i64 ((0:Nat):Int),.bool false,.slice TA tg.row.length tc,.int .i64 tg.fam,.slice TB tg.qual.length td,.int .i64 tg.ts,.int .i64 tg.seq,.int .i64 tg.kind,.slice none 0 0,.int .i64 0]::bytO 5 (TA,tc,tg.row)::bytO 5 (TB,td,tg.qual)::(os2 ++ os)) z,?_⟩
     have HS:=Lib.hid (HX.out.later hd)
     refine lq 0 [1,2,3,4,5,6,7,8,9,10,11,12] rfl (yi_cell rfl rfl rfl (fun w hS=>OW.cell hS (i:=3) (j:=0) rfl rfl) Tryz.isAgg74) HS.out ?_
     simp only [Act.put,ls]
     refine lp2 1 rfl (fun _=>HS.out) ?_
     simp only [Act.put,ls]
     refine lp2 2 rfl (fun _=>HS.out) ?_
     simp only [Act.put,ls]
     refine lq 3 [4,5,6,7,8,9,10,11,12] rfl (yi_cell rfl rfl rfl (fun w hS=>OW.cell hS (i:=4) (j:=4) rfl rfl) Tryz.isAgg4) HS.out ?_
     simp only [Act.put,ls]
     refine lp2 4 rfl (fun _=>HS.out) ?_
     simp only [Act.put,ls]
     refine lk 5 rfl (fun _=>HS.out) ?_
     simp only [Act.put,ls]
     refine lk 6 rfl (fun _=>HS.out) ?_
     simp only [Act.put,ls]
     refine lk 7 rfl (fun _=>HS.out) ?_
     simp only [Act.put,ls]
     refine lk 8 rfl (fun _=>HS.out) ?_
     simp only [Act.put,ls]
     refine lk 9 rfl (fun _=>HS.out) ?_
     simp only [Act.put,ls]
     refine lk 10 rfl (fun _=>HS.out) ?_
     simp only [Act.put,ls]
     refine lk 11 rfl (fun _=>HS.out) ?_
     simp only [Act.put,ls]
     refine lp2 12 rfl (fun _=>HS.out) ?_
     simp only [Act.put,ls]
     refine lt_done (by kernel_rfl) ?_
     have HX9:=HS
     clear HS
     clear HX
     have HX:=HX9
     clear HX9
     go_wp2_with fail
     go_roundw
     case rel=>exact ⟨pt + 1,_,L,os2,0,false,HOKN,HCRN,HX⟩
     case measure =>
      rw [HPM.out,HPM3.out _ _ _ HX.out]
      omega
    | true =>
     by_cases ha:a < ll
     case neg =>
      have hal:a=ll:=by omega
      have HOKN:Hid (CurR.Ok ⟨g,pt + 1,.pointer (some ⟨bg,0,none⟩),L,os2,a,true,tg,TA,tc,TB,td,0⟩ q.r):=Lib.hid ⟨.inr ⟨bg,RR,rfl,HBK.out⟩,(by show pt + 1≤_;rw [← HN.out];omega),(by show a≤L.length;rw [← HLE.out];omega),(fun _=>by show a=L.length;rw [← HLE.out];exact hal),HBF.out.chk,HLL.out,HVAL.out,.inl rfl⟩
      have HCRN:Hid (cr=CurR.rest ⟨g,pt + 1,.pointer (some ⟨bg,0,none⟩),L,os2,a,true,tg,TA,tc,TB,td,0⟩ q.r):=Lib.hid (by
       rw [HRE.out,HDP.out]
       show restF q.r (some tg) (r.p::_)=_
       have hs:skipE tg L=[]:=by rw [HSKP.out];exact List.drop_eq_nil_of_le (by rw [← HLE.out];omega)
       rw [restF_skip HBR.out hs]
       unfold CurR.rest
       dsimp only
       rw [if_neg (by decide),show L.drop a=[] from List.drop_eq_nil_of_le (by rw [← HLE.out];omega),List.nil_append]
       rfl)
      have f1:decide ((a:Int) < (ll:Int))=false:=decide_eq_false (by omega)
      have f2:decide (a < ll)=false:=decide_eq_false ha
      go_upto_region 12 with fail
      refine lt_start [] (by kernel_rfl) ?_
      intro xd hd
      refine ⟨fun z=>OW w (boxO ge [.int .i64 0]::boxO gk [.bool false]::boxO gx [.slice none 0 0,.int .i64 0,.slice none 0 0,.int .i64 0,.int .i64 0,.int .i64 0,.slice none 0 0]::boxO gc [.pointer (some ⟨g,0,none⟩)]::boxO g [.pointer (some ⟨rg,0,none⟩),.int .i64 ((pt:Int) + 1),.pointer (some ⟨bg,0,none⟩),.int .i64 a,.bool true,.slice TA tg.row.length tc,.int .i64 tg.fam,.slice TB tg.qual.length td,.int .i64 tg.ts,.int .i64 tg.seq,.int .i64 tg.kind,.slice none 0 0,.int .i64 0]::bytO 5 (TA,tc,tg.row)::bytO 5 (TB,td,tg.qual)::(os2 ++ os)) z,?_⟩
      have HS:=Lib.hid (HX.out.later hd)
      refine lq 0 [1,2,3,4,5,6,7,8,9,10,11,12] rfl (yi_cell rfl rfl rfl (fun w hS=>OW.cell hS (i:=3) (j:=0) rfl rfl) Tryz.isAgg74) HS.out ?_
      simp only [Act.put,ls]
      refine lp2 1 rfl (fun _=>HS.out) ?_
      simp only [Act.put,ls]
      refine lp2 2 rfl (fun _=>HS.out) ?_
      simp only [Act.put,ls]
      refine lq 3 [4,5,6,7,8,9,10,11,12] rfl (yi_cell rfl rfl rfl (fun w hS=>OW.cell hS (i:=4) (j:=4) rfl rfl) Tryz.isAgg4) HS.out ?_
      simp only [Act.put,ls]
      refine lp2 4 rfl (fun _=>HS.out) ?_
      simp only [Act.put,ls]
      refine lq 5 [6,7,8,11,12] rfl (yi_cell rfl rfl rfl (fun w hS=>OW.cell hS (i:=3) (j:=0) rfl rfl) Tryz.isAgg74) HS.out ?_
      simp only [Act.put,ls]
      refine lp2 6 rfl (fun _=>HS.out) ?_
      simp only [Act.put,ls]
      refine lp2 7 rfl (fun _=>HS.out) ?_
      simp only [Act.put,ls]
      refine lq 8 [11,12] rfl (yi_cell rfl rfl rfl (fun w hS=>OW.cell hS (i:=4) (j:=3) rfl rfl) Tryz.isAgg3) HS.out ?_
      simp only [Act.put,ls]
      refine lp2 9 rfl (fun _=>HS.out) ?_
      simp only [Act.put,ls]
      refine lt_call 10 rfl (by kernel_rfl) rfl rfl ⟨_,Tryz.func150,by decide,by kernel_rfl⟩ [.pointer (some ⟨bg,0,none⟩)] rfl ?_
      refine (len_any (HBKR.out _ _ _ _ _ _ _ _ _ _ _ HBK.out _ HS.out)).mono ?_
      rw [← HLE.out]
      rintro e z8 ⟨rfl,hb⟩
      replace HS:=Lib.hid (HS.out.later hb)
      clear hb
      refine ⟨_,rfl,fun _=>HS.out,?_⟩
      simp only [Act.put,ls]
      refine lp2 11 rfl (fun _=>HS.out) ?_
      simp only [Act.put,ls]
      refine lp2 12 rfl (fun _=>HS.out) ?_
      simp only [Act.put,ls]
      refine lt_done (by kernel_rfl) ?_
      have HX9:=HS
      clear HS
      clear HX
      have HX:=HX9
      clear HX9
      go_wp2_with fail
      go_roundw
      case rel=>exact ⟨pt + 1,_,L,os2,a,true,HOKN,HCRN,HX⟩
      case measure =>
       rw [HPM.out,HPM3.out _ _ _ HX.out]
       omega
     have f1:decide ((a:Int) < (ll:Int))=true:=decide_eq_true (by omega)
     have f2:decide (a < ll)=true:=decide_eq_true ha
     obtain ⟨y,hy⟩:∃ y,L[a]?=some y:=⟨_,List.getElem?_eq_getElem (by rw [← HLE.out];exact ha)⟩
     have HY:=Lib.hid hy
     have HYL:=Lib.hid (HVL.out y (List.mem_of_getElem? hy))
     obtain ⟨cv,hcv⟩:∃ z,z=cmpE y tg:=⟨_,rfl⟩
     have HCV:=Lib.hid hcv.symm
     have HIF:Hid (cv < 0↔a < N):=Lib.hid (by
      have h:=tw_iff (p:=fun x=>decide (cmpE x tg < 0)) HY.out (by rw [← HNN.out];exact haN)
      rw [← HNN.out] at h
      rw [hcv]
      simpa using h)
     clear hy hcv
     go_upto_region 12 with fail
     refine lt_start [] (by kernel_rfl) ?_
     intro xd hd
     refine ⟨fun z=>OW w (boxO ge [.int .i64 0]::boxO gk [.bool false]::boxO gx [.slice none 0 0,.int .i64 0,.slice none 0 0,.int .i64 0,.int .i64 0,.int .i64 0,.slice none 0 0]::boxO gc [.pointer (some ⟨g,0,none⟩)]::boxO g [.pointer (some ⟨rg,0,none⟩),.int .i64 ((pt:Int) + 1),.pointer (some ⟨bg,0,none⟩),.int .i64 a,.bool true,.slice TA tg.row.length tc,.int .i64 tg.fam,.slice TB tg.qual.length td,.int .i64 tg.ts,.int .i64 tg.seq,.int .i64 tg.kind,.slice none 0 0,.int .i64 0]::bytO 5 (TA,tc,tg.row)::bytO 5 (TB,td,tg.qual)::(os2 ++ os)) z,?_⟩
     have HS:=Lib.hid (HX.out.later hd)
     refine lq 0 [1,2,3,4,5,6,7,8,9,10,11,12] rfl (yi_cell rfl rfl rfl (fun w hS=>OW.cell hS (i:=3) (j:=0) rfl rfl) Tryz.isAgg74) HS.out ?_
     simp only [Act.put,ls]
     refine lp2 1 rfl (fun _=>HS.out) ?_
     simp only [Act.put,ls]
     refine lp2 2 rfl (fun _=>HS.out) ?_
     simp only [Act.put,ls]
     refine lq 3 [4,5,6,7,8,9,10,11,12] rfl (yi_cell rfl rfl rfl (fun w hS=>OW.cell hS (i:=4) (j:=4) rfl rfl) Tryz.isAgg4) HS.out ?_
     simp only [Act.put,ls]
     refine lp2 4 rfl (fun _=>HS.out) ?_
     simp only [Act.put,ls]
     refine lq 5 [6,7,8,11,12] rfl (yi_cell rfl rfl rfl (fun w hS=>OW.cell hS (i:=3) (j:=0) rfl rfl) Tryz.isAgg74) HS.out ?_
     simp only [Act.put,ls]
     refine lp2 6 rfl (fun _=>HS.out) ?_
     simp only [Act.put,ls]
     refine lp2 7 rfl (fun _=>HS.out) ?_
     simp only [Act.put,ls]
     refine lq 8 [11,12] rfl (yi_cell rfl rfl rfl (fun w hS=>OW.cell hS (i:=4) (j:=3) rfl rfl) Tryz.isAgg3) HS.out ?_
     simp only [Act.put,ls]
     refine lp2 9 rfl (fun _=>HS.out) ?_
     simp only [Act.put,ls]
     refine lt_call 10 rfl (by kernel_rfl) rfl rfl ⟨_,Tryz.func150,by decide,by kernel_rfl⟩ [.pointer (some ⟨bg,0,none⟩)] rfl ?_
     refine (len_any (HBKR.out _ _ _ _ _ _ _ _ _ _ _ HBK.out _ HS.out)).mono ?_
     rw [← HLE.out]
     rintro e z8 ⟨rfl,hb⟩
     replace HS:=Lib.hid (HS.out.later hb)
     clear hb
     refine ⟨_,rfl,fun _=>HS.out,?_⟩
     simp only [Act.put,ls]
     refine lp2 11 rfl (fun _=>HS.out) ?_
     simp only [Act.put,ls]
     refine lp2 12 rfl (fun _=>HS.out) ?_
     simp only [Act.put,ls]
     refine lt_done (by kernel_rfl) ?_
     have HX9:=HS
     clear HS
     clear HX
     have HX:=HX9
     clear HX9
     go_upto_region 13 with fail
     go_upto_region 14 with (first
      | (refine wpList_load_cell rfl 74 (.tmp 1) rfl rfl (HX.out.cell (i:=3) (j:=0) rfl rfl) Tryz.isAgg74 ?_)
      | (refine wpList_load_cell rfl 3 (.tmp 93) rfl rfl (HX.out.cell (i:=4) (j:=3) rfl rfl) Tryz.isAgg3 ?_)
      | (go_at_call 151;go_must (refine (at_in (HBKR.out _ _ _ _ _ _ _ _ _ _ _ HBK.out _ HX.out) HVL.out HY.out).mono ?_);rintro rr z8 hp;obtain ⟨A1,B1,D1,rfl,ca,cb,cd,hz⟩:=hp.own;have HCA:=Lib.hid (And.intro ca (And.intro cb cd));have HX1:Hid (OW w (clipO A1 y.row::clipO B1 y.qual::clipO D1 y.val::boxO ge [.int .i64 0]::boxO gk [.bool false]::boxO gx [.slice none 0 0,.int .i64 0,.slice none 0 0,.int .i64 0,.int .i64 0,.int .i64 0,.slice none 0 0]::boxO gc [.pointer (some ⟨g,0,none⟩)]::boxO g [.pointer (some ⟨rg,0,none⟩),.int .i64 ((pt:Int) + 1),.pointer (some ⟨bg,0,none⟩),.int .i64 a,.bool true,.slice TA tg.row.length tc,.int .i64 tg.fam,.slice TB tg.qual.length td,.int .i64 tg.ts,.int .i64 tg.seq,.int .i64 tg.kind,.slice none 0 0,.int .i64 0]::bytO 5 (TA,tc,tg.row)::bytO 5 (TB,td,tg.qual)::(os2 ++ os)) z8):=Lib.hid ((HX.out.app hz).perm List.perm_append_comm);clear ca cb cd hz hp HX)
      | (refine wl_alloc rfl rfl [.slice none 0 0,.int .i64 0,.slice none 0 0,.int .i64 0,.int .i64 0,.int .i64 0,.slice none 0 0] (.inl (by kernel_rfl)) HX1.out ?_;intro g6 z9 hz _;have HX2:Hid (OW w (boxO g6 [.slice none 0 0,.int .i64 0,.slice none 0 0,.int .i64 0,.int .i64 0,.int .i64 0,.slice none 0 0]::clipO A1 y.row::clipO B1 y.qual::clipO D1 y.val::boxO ge [.int .i64 0]::boxO gk [.bool false]::boxO gx [.slice none 0 0,.int .i64 0,.slice none 0 0,.int .i64 0,.int .i64 0,.int .i64 0,.slice none 0 0]::boxO gc [.pointer (some ⟨g,0,none⟩)]::boxO g [.pointer (some ⟨rg,0,none⟩),.int .i64 ((pt:Int) + 1),.pointer (some ⟨bg,0,none⟩),.int .i64 a,.bool true,.slice TA tg.row.length tc,.int .i64 tg.fam,.slice TB tg.qual.length td,.int .i64 tg.ts,.int .i64 tg.seq,.int .i64 tg.kind,.slice none 0 0,.int .i64 0]::bytO 5 (TA,tc,tg.row)::bytO 5 (TB,td,tg.qual)::(os2 ++ os)) z9):=Lib.hid (OW.perm hz (List.perm_append_singleton _ _));clear hz HX1)
      | (refine wl_put rfl (.tmp 6) (.tmp 96) rfl HX2.out 0 rfl rfl [.slice A1 y.row.length y.row.length,.int .i64 y.fam,.slice B1 y.qual.length y.qual.length,.int .i64 y.ts,.int .i64 y.seq,.int .i64 y.kind,.slice D1 y.val.length y.val.length] rfl rfl (by kernel_rfl) (by simp [Value.oneCell']) ?_;intro z10 hz _;have HX3:Hid (OW w (boxO g6 [.slice A1 y.row.length y.row.length,.int .i64 y.fam,.slice B1 y.qual.length y.qual.length,.int .i64 y.ts,.int .i64 y.seq,.int .i64 y.kind,.slice D1 y.val.length y.val.length]::clipO A1 y.row::clipO B1 y.qual::clipO D1 y.val::boxO ge [.int .i64 0]::boxO gk [.bool false]::boxO gx [.slice none 0 0,.int .i64 0,.slice none 0 0,.int .i64 0,.int .i64 0,.int .i64 0,.slice none 0 0]::boxO gc [.pointer (some ⟨g,0,none⟩)]::boxO g [.pointer (some ⟨rg,0,none⟩),.int .i64 ((pt:Int) + 1),.pointer (some ⟨bg,0,none⟩),.int .i64 a,.bool true,.slice TA tg.row.length tc,.int .i64 tg.fam,.slice TB tg.qual.length td,.int .i64 tg.ts,.int .i64 tg.seq,.int .i64 tg.kind,.slice none 0 0,.int .i64 0]::bytO 5 (TA,tc,tg.row)::bytO 5 (TB,td,tg.qual)::(os2 ++ os)) z10):=Lib.hid hz;clear hz HX2))
     have HX:=HX3
     clear HX3
     refine lt_start [] (by kernel_rfl) ?_
     intro xd hd
     refine ⟨fun z=>OW w (boxO g6 [.slice A1 y.row.length y.row.length,.int .i64 y.fam,.slice B1 y.qual.length y.qual.length,.int .i64 y.ts,.int .i64 y.seq,.int .i64 y.kind,.slice D1 y.val.length y.val.length]::clipO A1 y.row::clipO B1 y.qual::clipO D1 y.val::boxO ge [.int .i64 0]::boxO gk [.bool false]::boxO gx [.slice none 0 0,.int .i64 0,.slice none 0 0,.int .i64 0,.int .i64 0,.int .i64 0,.slice none 0 0]::boxO gc [.pointer (some ⟨g,0,none⟩)]::boxO g [.pointer (some ⟨rg,0,none⟩),.int .i64 ((pt:Int) + 1),.pointer (some ⟨bg,0,none⟩),.int .i64 a,.bool true,.slice TA tg.row.length tc,.int .i64 tg.fam,.slice TB tg.qual.length td,.int .i64 tg.ts,.int .i64 tg.seq,.int .i64 tg.kind,.slice none 0 0,.int .i64 0]::bytO 5 (TA,tc,tg.row)::bytO 5 (TB,td,tg.qual)::(os2 ++ os)) z,?_⟩
     have HS:=Lib.hid (HX.out.later hd)
     refine lq 0 [5,6] rfl (yi_rowO rfl rfl rfl (fun w hS=>OW.range hS (i:=0) rfl) ent_row5) HS.out ?_
     simp only [Act.put,ls]
     refine lq 1 [2,3,4,5,6] rfl (yi_cell rfl rfl rfl (fun w hS=>OW.cell hS (i:=7) (j:=0) rfl rfl) Tryz.isAgg74) HS.out ?_
     simp only [Act.put,ls]
     refine lp2 2 rfl (fun _=>HS.out) ?_
     simp only [Act.put,ls]
     refine lp2 3 rfl (fun _=>HS.out) ?_
     simp only [Act.put,ls]
     refine lq 4 [5,6] rfl (yi_rowO (cs:=[.slice TA tg.row.length tc,.int .i64 tg.fam,.slice TB tg.qual.length td,.int .i64 tg.ts,.int .i64 tg.seq,.int .i64 tg.kind,.slice none 0 0]) rfl rfl rfl (fun w hS=>OW.part hS (i:=8) rfl 5 7) ent_row5) HS.out ?_
     simp only [Act.put,ls]
     refine lt_call 5 rfl (by kernel_rfl) rfl rfl ⟨_,Tryz.func93,by decide,by kernel_rfl⟩ [.agg #[.slice A1 y.row.length y.row.length,.int .i64 y.fam,.slice B1 y.qual.length y.qual.length,.int .i64 y.ts,.int .i64 y.seq,.int .i64 y.kind,.slice D1 y.val.length y.val.length],.agg #[.slice TA tg.row.length tc,.int .i64 tg.fam,.slice TB tg.qual.length td,.int .i64 tg.ts,.int .i64 tg.seq,.int .i64 tg.kind,.slice none 0 0]] rfl ?_
     refine (compare_any y tg A1 _ _ B1 _ _ D1 _ _ TA _ tc TB _ td none 0 0 _ ⟨HS.out.clipSl HCA.out.1 (i:=1) rfl rfl (by have:=HYL.out;omega),HS.out.clipSl HCA.out.2.1 (i:=2) rfl rfl (by have:=HYL.out;omega),HS.out.clipSl HCA.out.2.2 (i:=3) rfl rfl (by have:=HYL.out;omega)⟩ ⟨HS.out.sl (i:=9) rfl rfl,HS.out.sl (i:=10) rfl rfl,by rw [HVAL.out];exact Sl.none _⟩).mono ?_
     rw [HCV.out]
     rintro e z11 ⟨rfl,hb⟩
     replace HS:=Lib.hid (HS.out.later hb)
     clear hb
     refine ⟨_,rfl,fun _=>HS.out,?_⟩
     simp only [Act.put,ls]
     refine lp2 6 rfl (fun _=>HS.out) ?_
     simp only [Act.put,ls]
     refine lt_done (by kernel_rfl) ?_
     have HX9:=HS
     clear HS
     clear HX
     have HX:=HX9
     clear HX9
     by_cases hb:a < N
     case pos =>
      have hc0:cv < 0:=HIF.out.2 hb
      have k1:decide (cv ≥ 0)=false:=decide_eq_false (by omega)
      have k2:decide (0≤cv)=false:=decide_eq_false (by omega)
      have k3:¬ 0≤cv:=by omega
      have s1:IntKind.i64.wrap ((a:Int) + 1)=(a:Int) + 1:=i64_sum (by omega) (by omega)
      clear hc0
      go_wp2_with (first
       | (refine wpList_load_cell rfl 74 (.tmp 1) rfl rfl (HX.out.cell (i:=7) (j:=0) rfl rfl) Tryz.isAgg74 ?_)
       | (refine wpList_load_cell rfl 3 (.tmp 110) rfl rfl (HX.out.cell (i:=8) (j:=3) rfl rfl) Tryz.isAgg3 ?_)
       | (refine wl_put1 rfl (.tmp 114) (.tmp 112) rfl HX.out 8 rfl 3 rfl (by simp) (.int .i64 ((a:Int) + 1)) rfl (by kernel_rfl) rfl ?_;intro z12 hz _;have HX9:Hid (OW w (boxO ge [.int .i64 0]::boxO gk [.bool false]::boxO gx [.slice none 0 0,.int .i64 0,.slice none 0 0,.int .i64 0,.int .i64 0,.int .i64 0,.slice none 0 0]::boxO gc [.pointer (some ⟨g,0,none⟩)]::boxO g [.pointer (some ⟨rg,0,none⟩),.int .i64 ((pt:Int) + 1),.pointer (some ⟨bg,0,none⟩),.int .i64 ((a:Int) + 1),.bool true,.slice TA tg.row.length tc,.int .i64 tg.fam,.slice TB tg.qual.length td,.int .i64 tg.ts,.int .i64 tg.seq,.int .i64 tg.kind,.slice none 0 0,.int .i64 0]::bytO 5 (TA,tc,tg.row)::bytO 5 (TB,td,tg.qual)::(os2 ++ os)) z12):=Lib.hid (OW.sub hz ((((List.Sublist.refl _).cons _).cons _).cons _ |>.cons _));clear hz HX))
      go_roundw
      case rel=>exact ⟨a + 1,by omega,Lib.hid (by first | exact trivial | (intro h;cases h)),HX9⟩
      case measure =>
       rw [HAM.out,atM_of (k:=a + 1) (HX9.out.cell (i:=4) (j:=3) rfl rfl)]
       omega
     have haN2:a=N:=by omega
     have hc0:¬ cv < 0:=fun h=>hb (HIF.out.1 h)
     have k1:decide (cv ≥ 0)=true:=decide_eq_true (by omega)
     have k2:decide (0≤cv)=true:=decide_eq_true (by omega)
     have k3:0≤cv:=by omega
     have HOKN:Hid (CurR.Ok ⟨g,pt + 1,.pointer (some ⟨bg,0,none⟩),L,os2,a,false,tg,TA,tc,TB,td,0⟩ q.r):=Lib.hid ⟨.inr ⟨bg,RR,rfl,HBK.out⟩,(by show pt + 1≤_;rw [← HN.out];omega),(by show a≤L.length;rw [← HLE.out];omega),(fun h=>by cases h),HBF.out.chk,HLL.out,HVAL.out,.inl rfl⟩
     have HCRN:Hid (cr=CurR.rest ⟨g,pt + 1,.pointer (some ⟨bg,0,none⟩),L,os2,a,false,tg,TA,tc,TB,td,0⟩ q.r):=Lib.hid (by
      rw [HRE.out,HDP.out]
      show restF q.r (some tg) (r.p::_)=_
      have hs:skipE tg L ≠ []:=by
       rw [HSKP.out]
       intro h0
       have:=congrArg List.length h0
       rw [List.length_drop,← HLE.out,List.length_nil] at this
       omega
      rw [restF_some HBR.out hs,HSKP.out,← haN2]
      rfl)
     clear hc0 hb
     go_wp2_with (first
      | (refine wpList_load_cell rfl 74 (.tmp 1) rfl rfl (HX.out.cell (i:=7) (j:=0) rfl rfl) Tryz.isAgg74 ?_)
      | (refine wl_put1 rfl (.tmp 107) (.const (.bool false)) rfl HX.out 8 rfl 4 rfl (by simp) (.bool false) rfl (by kernel_rfl) rfl ?_;intro z12 hz _;have HX9:Hid (OW w (boxO ge [.int .i64 0]::boxO gk [.bool false]::boxO gx [.slice none 0 0,.int .i64 0,.slice none 0 0,.int .i64 0,.int .i64 0,.int .i64 0,.slice none 0 0]::boxO gc [.pointer (some ⟨g,0,none⟩)]::boxO g [.pointer (some ⟨rg,0,none⟩),.int .i64 ((pt:Int) + 1),.pointer (some ⟨bg,0,none⟩),.int .i64 a,.bool false,.slice TA tg.row.length tc,.int .i64 tg.fam,.slice TB tg.qual.length td,.int .i64 tg.ts,.int .i64 tg.seq,.int .i64 tg.kind,.slice none 0 0,.int .i64 0]::bytO 5 (TA,tc,tg.row)::bytO 5 (TB,td,tg.qual)::(os2 ++ os)) z12):=Lib.hid (OW.sub hz ((((List.Sublist.refl _).cons _).cons _).cons _ |>.cons _));clear hz HX))
     have HX:=HX9
     clear HX9
     simp only [Act.put]
     go_roundw
     case rel=>exact ⟨pt + 1,_,L,os2,a,false,HOKN,HCRN,HX⟩
     case measure =>
      rw [HPM.out,HPM3.out _ _ _ HX.out]
      omega
end Go.Proofs.YtfdbcfaeiglbeaaGreatDoor
