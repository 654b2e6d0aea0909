/-
 RunW12, RunL3, RunLaw.
-/
import Derived.Test.YtfdbcfaeiglbeaaGreatDoorRZ26
import Derived.Test.YtfdbcfaeiglbeaaGreatDoorRZ33
namespace Go.Proofs.YtfdbcfaeiglbeaaGreatDoor
open Go.RowKit
set_option maxRecDepth 100000 in
theorem rall_any (q:RunRec) (w:World):Calls Tryz.prog 47 #[.pointer (some ⟨q.g,0,none⟩)] w fun e z=>∃ c:CurR,c.Ok q.r∧c.rest q.r=allR q.r∧e = .returned (.pointer (some ⟨c.g,0,none⟩))∧OW w (c.obs q) z:=by
 have HX:=Lib.hid (OW.nil w)
 go_enter Tryz.func47,Tryz.ntmps47
 go_wp2_with (refine wl_box rfl (.tmp 4) rfl [.pointer (some ⟨q.g,0,none⟩),.int .i64 0,.pointer none,.int .i64 0,.bool false,.slice none 0 0,.int .i64 0,.slice none 0 0,.int .i64 0,.int .i64 0,.int .i64 0,.slice none 0 0,.int .i64 0] rfl HX.out ?_;intro gc x1 hz _;have HX1:Hid (OW w [boxO gc [.pointer (some ⟨q.g,0,none⟩),.int .i64 0,.pointer none,.int .i64 0,.bool false,.slice none 0 0,.int .i64 0,.slice none 0 0,.int .i64 0,.int .i64 0,.int .i64 0,.slice none 0 0,.int .i64 0]] x1):=Lib.hid hz;clear hz HX)
 go_ret
 refine ⟨⟨gc,0,.pointer none,[],[],0,false,noEnt,none,0,none,0,0⟩,⟨.inl ⟨rfl,rfl,rfl⟩,Nat.zero_le _,Nat.zero_le _,(fun h=>by cases h),(fun _ h=>by cases h),Nat.zero_le _,rfl,.inl rfl⟩,?_,rfl,?_⟩
 ·unfold CurR.rest
  dsimp only
  rw [if_neg (by decide)]
  show ([] ++ (restF q.r none q.r.ps).1,(restF q.r none q.r.ps).2)=_
  rw [restF_all];rfl
 ·exact OW.perm (OW.nilB (OW.nilB HX1.out 5) 5) (by exact List.Perm.refl _)
theorem next_some {q:RunRec} (hf:RunF q) {c:CurR} {cg:Nat} (hcg:c.g=cg) (hc:c.Ok q.r) {w x:World} {os:List Ob} (hs:q.obs.Sublist os) (h:OW w (c.obs q ++ os) x) (ht:TabAt 0 w) {y:Ent} {L:List Ent} {b:Bool} (hr:c.rest q.r=(y::L,b)) :
  Calls Tryz.prog 89 #[.pointer (some ⟨cg,0,none⟩)] x fun e z=>∃ (c':CurR) (A B D:Option Addr),c'.g=c.g∧c'.Ok q.r∧c'.rest q.r=(L,b)∧e = .returned (.tuple #[entV A y.row.length y.row.length B y.qual.length y.qual.length D y.val.length y.val.length y,.bool true,.int .i64 0])∧CAt A y.row∧CAt B y.qual∧CAt D y.val∧checkE y=0∧OW w (clipO A y.row::clipO B y.qual::clipO D y.val::(c'.obs q ++ os)) z:=by
 subst hcg
 exact (next_any q hf c hc w x os hs h ht).mono fun e z hp=>by
  obtain ⟨c',h1,h2,⟨y',L',b',A,B,D,h3,h4,h5,h6,h7,h8,h9,h10⟩ | ⟨b',h3,_⟩⟩:=hp
  ·rw [hr] at h3
   injection h3 with h3 h3b
   injection h3 with h3 h3a
   subst h3 h3a h3b
   exact ⟨c',A,B,D,h1,h2,h4,h5,h6,h7,h8,h9,h10⟩
  ·rw [hr] at h3;injection h3 with h3;cases h3
theorem next_none {q:RunRec} (hf:RunF q) {c:CurR} {cg:Nat} (hcg:c.g=cg) (hc:c.Ok q.r) {w x:World} {os:List Ob} (hs:q.obs.Sublist os) (h:OW w (c.obs q ++ os) x) (ht:TabAt 0 w) {b:Bool} (hr:c.rest q.r=([],b)) {kb:Int} (hkb:(if b=true then 0 else 73)=kb) :
  Calls Tryz.prog 89 #[.pointer (some ⟨cg,0,none⟩)] x fun e z=>∃ c':CurR,c'.g=c.g∧c'.Ok q.r∧c'.rest q.r=([],b)∧e = .returned (.tuple #[entV none 0 0 none 0 0 none 0 0 noEnt,.bool false,.int .i64 kb])∧OW w (c'.obs q ++ os) z:=by
 subst hcg
 exact (next_any q hf c hc w x os hs h ht).mono fun e z hp=>by
  obtain ⟨c',h1,h2,⟨y',L',b',A,B,D,h3,_⟩ | ⟨b',h3,h4,h5,h6⟩⟩:=hp
  ·rw [hr] at h3;injection h3 with h3;cases h3
  ·rw [hr] at h3
   injection h3 with _ h3
   subst h3
   rw [hkb] at h5
   exact ⟨c',h1,h2,h4,h5,h6⟩
def lenV:Value→Nat
 | .slice _ n _=>n
 | _=>0
def endK (b:Bool):Int:=if b=true then 0 else 73
def GoneP (q:RunRec) (cg:Nat) (L:List Ent) (b:Bool) (w:World) (os:List Ob) (e:Ending) (z:World):Prop :=
 ∃ (c':CurR) (LA:Option Addr) (lc:Nat) (rs:List ER),c'.g=cg∧c'.Ok q.r∧c'.rest q.r=([],b)∧rs.map ER.e=L∧e = .returned (.tuple #[.slice LA rs.length lc,.int .i64 (endK b)])∧OW w (entsO LA rs.length lc rs ++ (c'.obs q ++ os)) z
theorem gone_perm1 (r:Ob) (C F O:List Ob):(r::(C ++ (F ++ O))).Perm (C ++ (r::(F ++ O))):=perm_mid9 [r] C (F ++ O)
theorem gone_perm2 (a b d r:Ob) (C F O:List Ob):(a::b::d::(C ++ (r::(F ++ O)))).Perm (r::a::b::d::(C ++ (F ++ O))):=by (refine perm_of_cnt fun a=>?_;(simp only [cntO_app,cntO_cons]) <;> omega)
theorem gone_perm3 (g r a b d n:Ob) (C F O N:List Ob):(((g::r::a::b::d::(C ++ (F ++ O))) ++ N) ++ [n]).Perm ((r::(C ++ ((F ++ N) ++ O))) ++ [g,a,b,d,n]):=by (refine perm_of_cnt fun a=>?_;(simp only [cntO_app,cntO_cons,cntO_nil]) <;> omega)
theorem gone_perm4 (r:Ob) (C F O:List Ob):(r::(C ++ (F ++ O))).Perm ((r::F) ++ (C ++ O)):=by (refine perm_of_cnt fun a=>?_;(simp only [cntO_app,cntO_cons]) <;> omega)
set_option maxRecDepth 1000000 in
set_option maxHeartbeats 8000000 in
theorem gone_any (q:RunRec) (hf:RunF q) (c:CurR) (hc:c.Ok q.r) (w x:World) (os:List Ob) (hs:q.obs.Sublist os) (h:OW w (c.obs q ++ os) x) (ht:TabAt 0 w) (L:List Ent) (b:Bool) (hr:c.rest q.r=(L,b)) (most:Int) (hm:(L.length:Int)≤most) (hl:L.length≤1000000000) :
  Calls Tryz.prog 34 #[.pointer (some ⟨c.g,0,none⟩),.int .i64 most] x (GoneP q c.g L b w os):=by
 obtain ⟨cg,hcg⟩:∃ g,g=c.g:=⟨_,rfl⟩
 rw [← hcg]
 have HF:=Lib.hid hf
 have HS:=Lib.hid hs
 have HT:=Lib.hid ht
 have HC:=Lib.hid hc
 have HR:=Lib.hid hr
 have HCG:=Lib.hid hcg.symm
 have HX0:Hid (OW w (rowO 60 7 (.slice none 0 0) 0 []::(c.obs q ++ ([] ++ os))) x):=Lib.hid ((h.nilRow 60 7).perm (List.perm_append_singleton _ _))
 obtain ⟨PP,hPP⟩:∃ p,p=GoneP q cg L b w os:=⟨_,rfl⟩
 rw [← hPP]
 have HPP:Hid (∀ e z,GoneP q cg L b w os e z→PP e z):=Lib.hid fun e z h=>by rw [hPP];exact h
 clear hf hs ht hc hr h hcg hPP
 obtain ⟨kb,hkb⟩:∃ k:Int,endK b=k:=⟨_,rfl⟩
 have HKB:=Lib.hid hkb
 clear hkb
 go_enter Tryz.func34,Tryz.ntmps34
 go_upto_region 4 with fail
 go_loopw [6] (fun lv wr=>∃ (c:CurR) (LA:Option Addr) (n lc:Nat) (rs:List ER) (L':List Ent),lv = .slice LA n lc∧rs.length=n∧Hid (c.g=cg)∧Hid (c.Ok q.r)∧Hid (c.rest q.r=(L',b))∧n + L'.length=L.length∧Hid (rs.map ER.e ++ L'=L)∧Hid (OW w (rowO 60 7 (.slice LA n lc) n (rs.flatMap ER.cells)::(c.obs q ++ (rs.flatMap rowE ++ os))) wr)) (fun lv _=>L.length + 1 - lenV lv)
 case atStart=>exact ⟨c,none,0,0,[],L,rfl,rfl,HCG,HC,HR,Nat.zero_add _,Lib.hid rfl,HX0⟩
 case round =>
  clear HX0 HC HR HCG c
  obtain ⟨c,LA,n,lc,rs,L',rfl,hrl,HCG,HC,HR,hnl,HLL,HX⟩:=hrel
  have HRL:=Lib.hid hrl
  have d1:decide ((n:Int)≤most)=true:=decide_eq_true (by omega)
  have d2:(n:Int)≤most:=by omega
  clear hrl
  cases L' with
  | nil =>
   go_upto_region 6 with (first
    | (go_at_call 89;go_must (refine (next_none HF.out HCG.out HC.out (os:=_::(rs.flatMap rowE ++ os)) ((HS.out.trans (List.sublist_append_right _ _)).cons _) (HX.out.perm (gone_perm1 _ _ _ _)) HT.out HR.out HKB.out).mono ?_);rintro e x1 ⟨c',k1,k2,k3,rfl,hz⟩;have HX1:=Lib.hid hz;have HK:=Lib.hid (And.intro k1 (And.intro k2 k3));clear hz k1 k2 k3 HX)
    | (refine wl_alloc rfl rfl [.slice none 0 0,.int .i64 0,.slice none 0 0,.int .i64 0,.int .i64 0,.int .i64 0,.slice none 0 0] (.inl (by kernel_rfl)) HX1.out ?_;intro g7 x2 hz _;have HX2:Hid (OW w (boxO g7 [.slice none 0 0,.int .i64 0,.slice none 0 0,.int .i64 0,.int .i64 0,.int .i64 0,.slice none 0 0]::(c'.obs q ++ (rowO 60 7 (.slice LA n lc) n (rs.flatMap ER.cells)::(rs.flatMap rowE ++ os)))) x2):=Lib.hid (OW.perm hz (List.perm_append_singleton _ _));clear hz HX1)
    | (refine wl_put rfl (.tmp 7) (.tmp 20) rfl HX2.out 0 rfl rfl [.slice none 0 0,.int .i64 0,.slice none 0 0,.int .i64 0,.int .i64 0,.int .i64 0,.slice none 0 0] rfl rfl (by kernel_rfl) (by simp [Value.oneCell']) ?_;intro x3 hz _;have HX3:Hid (OW w (boxO g7 [.slice none 0 0,.int .i64 0,.slice none 0 0,.int .i64 0,.int .i64 0,.int .i64 0,.slice none 0 0]::(c'.obs q ++ (rowO 60 7 (.slice LA n lc) n (rs.flatMap ER.cells)::(rs.flatMap rowE ++ os)))) x3):=Lib.hid hz;clear hz HX2))
   go_wp2_with (go_at_call 20;go_must (refine (num7_any _ _).mono ?_);rintro e x4 ⟨rfl,rfl⟩)
   refine HPP.out _ _ ⟨c',LA,lc,rs,HK.out.1.trans HCG.out,HK.out.2.1,HK.out.2.2,?_,?_,?_⟩
   ·have h1:=HLL.out
    rwa [List.append_nil] at h1
   ·rw [HRL.out,HKB.out];rfl
   ·rw [HRL.out]
    have hz:=OW.erase HX3.out 0
    exact OW.perm hz ((gone_perm1 _ _ _ _).symm.trans (gone_perm4 _ _ _ _))
  | cons y L' =>
   go_upto_region 6 with (first
    | (go_at_call 89;go_must (refine (next_some HF.out HCG.out HC.out (os:=_::(rs.flatMap rowE ++ os)) ((HS.out.trans (List.sublist_append_right _ _)).cons _) (HX.out.perm (gone_perm1 _ _ _ _)) HT.out HR.out).mono ?_);rintro e x1 ⟨c',A1,B1,D1,k1,k2,k3,rfl,ca,cb,cd,ck,hz⟩;have HX1:Hid (OW w (rowO 60 7 (.slice LA n lc) n (rs.flatMap ER.cells)::clipO A1 y.row::clipO B1 y.qual::clipO D1 y.val::(c'.obs q ++ (rs.flatMap rowE ++ os))) x1):=Lib.hid (OW.perm hz (gone_perm2 _ _ _ _ _ _ _));have HK:=Lib.hid (And.intro k1 (And.intro k2 k3));have HCA:=Lib.hid (And.intro ca (And.intro cb cd));have HCK:=Lib.hid ck;clear hz k1 k2 k3 ca cb cd ck HX)
    | (refine wl_alloc rfl rfl [.slice none 0 0,.int .i64 0,.slice none 0 0,.int .i64 0,.int .i64 0,.int .i64 0,.slice none 0 0] (.inl (by kernel_rfl)) HX1.out ?_;intro g7 x2 hz _;have HX2:Hid (OW w (boxO g7 [.slice none 0 0,.int .i64 0,.slice none 0 0,.int .i64 0,.int .i64 0,.int .i64 0,.slice none 0 0]::rowO 60 7 (.slice LA n lc) n (rs.flatMap ER.cells)::clipO A1 y.row::clipO B1 y.qual::clipO D1 y.val::(c'.obs q ++ (rs.flatMap rowE ++ os))) x2):=Lib.hid (OW.perm hz (List.perm_append_singleton _ _));clear hz HX1)
    | (refine wl_put rfl (.tmp 7) (.tmp 20) rfl HX2.out 0 rfl rfl [.slice A1 y.row.length y.row.length,.int .i64 y.fam,.slice B1 y.qual.length y.qual.length,.int .i64 y.ts,.int .i64 y.seq,.int .i64 y.kind,.slice D1 y.val.length y.val.length] rfl rfl (by kernel_rfl) (by simp [Value.oneCell']) ?_;intro x3 hz _;have HX3:Hid (OW w (boxO g7 [.slice A1 y.row.length y.row.length,.int .i64 y.fam,.slice B1 y.qual.length y.qual.length,.int .i64 y.ts,.int .i64 y.seq,.int .i64 y.kind,.slice D1 y.val.length y.val.length]::rowO 60 7 (.slice LA n lc) n (rs.flatMap ER.cells)::clipO A1 y.row::clipO B1 y.qual::clipO D1 y.val::(c'.obs q ++ (rs.flatMap rowE ++ os))) x3):=Lib.hid hz;clear hz HX2))
   have HYL:=Lib.hid (ok_lens HCK.out)
   have HEN:Hid (En x3 A1 y.row.length y.row.length B1 y.qual.length y.qual.length D1 y.val.length y.val.length y):=Lib.hid ⟨HX3.out.clipSl HCA.out.1 (i:=2) rfl rfl (by have:=HYL.out;omega),HX3.out.clipSl HCA.out.2.1 (i:=3) rfl rfl (by have:=HYL.out;omega),HX3.out.clipSl HCA.out.2.2 (i:=4) rfl rfl (by have:=HYL.out;omega)⟩
   go_wp2_with (first
    | (refine wpList_load_row7 rfl 60 (.tmp 7) rfl rfl (HX3.out.range (i:=0) rfl) ent_row5 ?_)
    | (go_at_call 62;go_must (refine (copied7_any y A1 _ _ B1 _ _ D1 _ _ _ HEN.out HYL.out).mono ?_);rintro e x4 ⟨s,hse,rfl,hz⟩;have HX4:=Lib.hid (HX3.out.app hz);have HSE:=Lib.hid hse;clear hz hse HX3)
    | (refine wl_build rfl #[(0,.tmp 30)] rfl #[.slice s.A s.e.row.length s.c,.int .i64 s.e.fam,.slice s.B s.e.qual.length s.d,.int .i64 s.e.ts,.int .i64 s.e.seq,.int .i64 s.e.kind,.slice s.D s.e.val.length s.q] Tryz.entsS (.agg #[.slice none 0 0,.int .i64 0,.slice none 0 0,.int .i64 0,.int .i64 0,.int .i64 0,.slice none 0 0]) (by kernel_rfl) (by decide) (by decide) (by decide) rfl (by first | rfl | kernel_rfl) HX4.out ?_;intro g5 x5 hz _;have HX5:Hid (OW w (((boxO g7 [.slice A1 y.row.length y.row.length,.int .i64 y.fam,.slice B1 y.qual.length y.qual.length,.int .i64 y.ts,.int .i64 y.seq,.int .i64 y.kind,.slice D1 y.val.length y.val.length]::rowO 60 7 (.slice LA n lc) n (rs.flatMap ER.cells)::clipO A1 y.row::clipO B1 y.qual::clipO D1 y.val::(c'.obs q ++ (rs.flatMap rowE ++ os))) ++ rowE s) ++ [rowO 60 7 (.slice (some ⟨g5,0,none⟩) 1 1) 1 [.slice s.A s.e.row.length s.c,.int .i64 s.e.fam,.slice s.B s.e.qual.length s.d,.int .i64 s.e.ts,.int .i64 s.e.seq,.int .i64 s.e.kind,.slice s.D s.e.val.length s.q]]) x5):=Lib.hid hz;clear hz HX4)
    | (at_builtin;go_must (refine wl_append rfl (.tmp 28) (.tmp 31) rfl Tryz.entsS HX5.out 1 rfl rfl _ (some ⟨g5,0,none⟩) 1 1 [.slice s.A s.e.row.length s.c,.int .i64 s.e.fam,.slice s.B s.e.qual.length s.d,.int .i64 s.e.ts,.int .i64 s.e.seq,.int .i64 s.e.kind,.slice s.D s.e.val.length s.q] rfl (Reads.own (HX5.out.rowm (List.mem_append_right _ (List.mem_singleton.2 rfl)))) (by simp [Value.oneCell']) (by unfold maxLen;omega) (by omega) ?_);intro A6 c6 x6 hz _;have HX6:Hid (OW w (((boxO g7 [.slice A1 y.row.length y.row.length,.int .i64 y.fam,.slice B1 y.qual.length y.qual.length,.int .i64 y.ts,.int .i64 y.seq,.int .i64 y.kind,.slice D1 y.val.length y.val.length]::rowO 60 7 (.slice A6 (n + 1) c6) (n + 1) (rs.flatMap ER.cells ++ [.slice s.A s.e.row.length s.c,.int .i64 s.e.fam,.slice s.B s.e.qual.length s.d,.int .i64 s.e.ts,.int .i64 s.e.seq,.int .i64 s.e.kind,.slice s.D s.e.val.length s.q])::clipO A1 y.row::clipO B1 y.qual::clipO D1 y.val::(c'.obs q ++ (rs.flatMap rowE ++ os))) ++ rowE s) ++ [rowO 60 7 (.slice (some ⟨g5,0,none⟩) 1 1) 1 [.slice s.A s.e.row.length s.c,.int .i64 s.e.fam,.slice s.B s.e.qual.length s.d,.int .i64 s.e.ts,.int .i64 s.e.seq,.int .i64 s.e.kind,.slice s.D s.e.val.length s.q]]) x6):=Lib.hid hz;clear hz HX5))
   have HX7:Hid (OW w (rowO 60 7 (.slice A6 (n + 1) c6) (n + 1) ((rs ++ [s]).flatMap ER.cells)::(c'.obs q ++ ((rs ++ [s]).flatMap rowE ++ os))) x6):=Lib.hid (by
    rw [cellE_snoc,rowE_snoc]
    exact OW.left (OW.perm HX6.out (gone_perm3 _ _ _ _ _ _ _ _ _ _)))
   clear HX6
   have hlc:(y::L').length=L'.length + 1:=rfl
   go_roundw
   case rel=>exact ⟨c',A6,n + 1,c6,rs ++ [s],L',by go_num,by rw [List.length_append,HRL.out];rfl,Lib.hid (HK.out.1.trans HCG.out),Lib.hid HK.out.2.1,Lib.hid HK.out.2.2,by omega,Lib.hid (by rw [← HLL.out,List.map_append,List.append_assoc,← HSE.out];rfl),HX7⟩
   case measure=>simp [lenV];omega
theorem meta_count (a k b c d e:Int) (A B:Option Addr) (n m u v:Nat) (w:World):(Instr.field 47 (.agg #[.int .i64 a,.int .i64 k,.int .i64 b,.int .i64 c,.int .i64 d,.int .i64 e,.slice A n u,.slice B m v]) 1).run Tryz.prog w = .ok (.int .i64 k) w:=by kernel_rfl
set_option maxRecDepth 1000000 in
set_option maxHeartbeats 8000000 in
theorem all_goes (q:RunRec) (hf:RunF q) (w x:World) (os:List Ob) (hs:q.obs.Sublist os) (h:OW w os x) (ht:TabAt 0 w) (L:List Ent) (b:Bool) (hr:allR q.r=(L,b)) (hm:L.length≤q.r.count) (hl:L.length≤1000000000) :
  Calls Tryz.prog 31 #[.pointer (some ⟨q.g,0,none⟩)] x fun e z=>∃ cg,GoneP q cg L b w os e z:=by
 have hq:RunAt q x := .of hf.ok h hs
 have HRA:Hid (∀ z,Below x.heap.size x z→RunAt q z):=Lib.hid fun z hz=>hq.later hz
 have HF:=Lib.hid hf
 have HS:=Lib.hid hs
 have HT:=Lib.hid ht
 have HR:=Lib.hid hr
 have HX:=Lib.hid h
 have HK:Hid (q.f1.p.a.length≤100000000∧q.fn.p.b.length≤100000000):=Lib.hid (by
  have h1:=(pcin_len (hf.pin hf.ok.first)).1
  have h2:=(pcin_len (hf.pin hf.ok.last)).2
  omega)
 have HM:Hid ((L.length:Int)≤(q.r.count:Int)):=Lib.hid (by omega)
 obtain ⟨PP,hPP⟩:∃ p,p=fun e z=>∃ cg,GoneP q cg L b w os e z:=⟨_,rfl⟩
 show Calls Tryz.prog 31 #[.pointer (some ⟨q.g,0,none⟩)] x (fun e z=>∃ cg,GoneP q cg L b w os e z)
 rw [← hPP]
 have HPP:Hid (∀ cg e z,GoneP q cg L b w os e z→PP e z):=Lib.hid fun cg e z h=>by rw [hPP];exact ⟨cg,h⟩
 clear hf hs ht hr h hq hm hPP
 have kf:=meta_count
 go_enter Tryz.func31,Tryz.ntmps31
 go_wp2_with (first
  | (go_at_call 47;go_must (refine (rall_any q _).mono ?_);rintro e x1 ⟨c,k1,k2,rfl,hz⟩;have HX1:Hid (OW w (c.obs q ++ os) x1):=Lib.hid ((HX.out.app hz).perm List.perm_append_comm);have HB1:=Lib.hid hz.up;have HK1:=Lib.hid (And.intro k1 k2);clear hz k1 k2 HX)
  | (go_at_call 28;go_must (refine (meta_any q _ (HRA.out _ HB1.out) HK.out).mono ?_);rintro e x2 ⟨MA,mc,MB,md,rfl,hz⟩;have HX2:Hid (OW w (c.obs q ++ os) x2):=Lib.hid (HX1.out.later hz.up);clear hz HX1)
  | (go_at_call 34;go_must (refine (gone_any q HF.out c HK1.out.1 w _ os HS.out HX2.out HT.out L b (HK1.out.2.trans HR.out) _ HM.out hl).mono ?_);intro e x3 hp;obtain ⟨c',LA,lc,rs,j1,j2,j3,j4,rfl,hz⟩:=hp;have HZ:=Lib.hid (And.intro j1 (And.intro j2 (And.intro j3 (And.intro j4 hz))));clear hz j1 j2 j3 j4 HX2))
 exact HPP.out c.g _ _ ⟨c',LA,lc,rs,HZ.out.1,HZ.out.2.1,HZ.out.2.2.1,HZ.out.2.2.2.1,rfl,HZ.out.2.2.2.2⟩
end Go.Proofs.YtfdbcfaeiglbeaaGreatDoor
namespace Go.Proofs.YtfdbcfaeiglbeaaGreatDoor
open Go.RowKit Go.WideShapes Go.ChangeShapes Go.Joins Go.Deep
theorem ens_of_cellsP {P:Ent→Prop} {w:World} {b o n:Nat} (hb:b < w.heap.size) (h:∀ i,i < n→∃ r:ER,(∀ j v,r.cells[j]?=some v→w.cell? ⟨b,o + (i * 7 + j),none⟩=some v)∧r.En w∧P r.e):∃ L,Ens w (some ⟨b,o,none⟩) n L∧∀ e,e ∈ L→P e:=by
 have hh:∀ m,m≤n→∃ rs:List ER,rs.length=m∧(∀ i r,rs[i]?=some r→(∀ j v,r.cells[j]?=some v→w.cell? ⟨b,o + (i * 7 + j),none⟩=some v)∧r.En w∧P r.e):=by
  intro m
  induction m with
  | zero=>intro _;exact ⟨[],rfl,fun i r hr=>by cases hr⟩
  | succ m ih =>
   intro hm
   obtain ⟨rs,h1,h2⟩:=ih (by omega)
   obtain ⟨r,hr⟩:=h m (by omega)
   refine ⟨rs ++ [r],by rw [List.length_append,h1];rfl,fun i q hq=>?_⟩
   rw [List.getElem?_append] at hq
   split at hq
   ·exact h2 i q hq
   ·rename_i hlt
    obtain rfl:i=m:=by
     have:=(List.getElem?_eq_some_iff.1 hq).1
     simp at this;omega
    rw [h1,Nat.sub_self] at hq
    injection hq with hq
    subst hq;exact hr
 obtain ⟨rs,h1,h2⟩:=hh n (Nat.le_refl _)
 refine ⟨rs.map ER.e,⟨rs,rfl,⟨by rw [flat7_len,h1],fun _=>⟨b,o,rfl,hb,fun j u hu=>?_⟩⟩,fun r hr=>?_⟩,fun e he=>?_⟩
 ·have hj:j < rs.length * 7:=by have:=(List.getElem?_eq_some_iff.1 hu).1;rwa [flat7_len] at this
  obtain ⟨r,hr⟩:∃ r,rs[j / 7]?=some r:=⟨_,List.getElem?_eq_getElem (by omega)⟩
  have e:j=j / 7 * 7 + j % 7:=by omega
  rw [e] at hu ⊢
  rw [flat7_at hr (j % 7) (by omega)] at hu
  exact (h2 _ r hr).1 (j % 7) u hu
 ·obtain ⟨i,hi⟩:=List.getElem?_of_mem hr
  exact (h2 i r hi).2.1
 ·obtain ⟨r,hr,rfl⟩:=List.mem_map.1 he
  obtain ⟨i,hi⟩:=List.getElem?_of_mem hr
  exact (h2 i r hi).2.2
section
variable {H : Type} {enc : TypeId × Value → H} {w : World} {base : Nat} {held : Bool}
set_option maxRecDepth 100000 in
theorem upto_ents7 {fuel:Nat} {cs:List Value} {x:DataW H×List MemPlace} (h:DataW.trod enc Tryz.prog w base (fun _=>true) held fuel 24 cs=some x) (hb:Rows.uptoBulk x.1≤1048576) :
  ∃ (A:Option Addr) (n c:Nat) (L:List Ent),cs=[.slice A n c]∧n≤c∧c≤1048576∧Ens w A n L∧(∀ e,e ∈ L→e.row.length≤1048576∧e.qual.length≤1048576∧e.val.length≤1048576):=by
 rcases upto_structs Tryz.underlying24 Tryz.underlying60 (by kernel_rfl) (by kernel_rfl) h with rfl | ⟨a,len,cap,rfl,hl,hm,hc,hi⟩
 ·exact ⟨none,0,0,[],rfl,by omega,by omega,Ens.nil,fun e h=>by cases h⟩
 ·rcases Nat.eq_zero_or_pos len with h0 | hn
  ·subst h0;exact ⟨some a,0,cap,[],rfl,hl,by omega,Ens.nil,fun e h=>by cases h⟩
  obtain ⟨v,y,n,c0,_⟩:=hi 0 hn 0 _ rfl
  have c0':w.cell? (a.add 0)=some v:=c0
  rw [show a.add 0=a from by simp [Addr.add]] at c0'
  have hsp:=spot_none c0'
  have hb0:=World.block_lt_of_cell? w a c0'
  obtain ⟨L,hL,hLP⟩:=ens_of_cellsP (P:=fun e=>e.row.length≤1048576∧e.qual.length≤1048576∧e.val.length≤1048576) (w:=w) (b:=a.block) (o:=a.off) (n:=len) hb0 fun i him=>by
   obtain ⟨v0,y0,n0,c0,t0,u0⟩:=hi i him 0 _ rfl
   obtain ⟨v1,y1,n1,c1,t1,_⟩:=hi i him 1 _ rfl
   obtain ⟨v2,y2,n2,c2,t2,u2⟩:=hi i him 2 _ rfl
   obtain ⟨v3,y3,n3,c3,t3,_⟩:=hi i him 3 _ rfl
   obtain ⟨v4,y4,n4,c4,t4,_⟩:=hi i him 4 _ rfl
   obtain ⟨v5,y5,n5,c5,t5,_⟩:=hi i him 5 _ rfl
   obtain ⟨v6,y6,n6,c6,t6,u6⟩:=hi i him 6 _ rfl
   obtain ⟨A,m,c,l,rfl,hs,hx1⟩:=field_bytes Tryz.underlying34 Tryz.underlying5 (by kernel_rfl) t0
   obtain ⟨fam,rfl,_⟩:=field_int Tryz.underlying3 t1
   obtain ⟨B,m2,d,l2,rfl,hs2,hx2⟩:=field_bytes Tryz.underlying34 Tryz.underlying5 (by kernel_rfl) t2
   obtain ⟨ts,rfl,_⟩:=field_int Tryz.underlying3 t3
   obtain ⟨sq,rfl,_⟩:=field_int Tryz.underlying3 t4
   obtain ⟨kd,rfl,_⟩:=field_int Tryz.underlying3 t5
   obtain ⟨D,m3,q,l3,rfl,hs3,hx3⟩:=field_bytes Tryz.underlying34 Tryz.underlying5 (by kernel_rfl) t6
   have f1:=hs.cap
   have f2:=hs2.cap
   have f3:=hs3.cap
   have e1:=hs.rb.len
   have e2:=hs2.rb.len
   have e3:=hs3.rb.len
   subst e1 e2 e3
   rw [addr_add _ _ hsp] at c0 c1 c2 c3 c4 c5 c6
   refine ⟨⟨A,c,B,d,D,q,⟨l,fam,l2,ts,sq,kd,l3⟩⟩,fun j v hj=>?_,⟨hs,hs2,hs3⟩,by show l.length≤1048576∧l2.length≤1048576∧l3.length≤1048576;omega⟩
   match j,hj with
   | 0,hj=>injection hj with hj;subst hj;exact c0
   | 1,hj=>injection hj with hj;subst hj;exact c1
   | 2,hj=>injection hj with hj;subst hj;exact c2
   | 3,hj=>injection hj with hj;subst hj;exact c3
   | 4,hj=>injection hj with hj;subst hj;exact c4
   | 5,hj=>injection hj with hj;subst hj;exact c5
   | 6,hj=>injection hj with hj;subst hj;exact c6
  exact ⟨some a,len,cap,L,rfl,hl,by omega,by obtain ⟨b,o,sp⟩:=a;simp at hsp;subst hsp;exact hL,hLP⟩
set_option maxRecDepth 100000 in
theorem upto_ents7_top {r:Reach} {b0:Nat} {v:Value} {d:DataW H} {ps:List MemPlace} (hval:Value.okWide Tryz.prog w r b0 24 v) (h:DataW.Trod enc Tryz.prog w base (fun _=>true) held 24 v d ps) (hb:Rows.uptoBulk d≤1048576) :
  ∃ (A:Option Addr) (n c:Nat) (L:List Ent),v = .slice A n c∧n≤1048576∧Ens w A n L∧(∀ e,e ∈ L→e.row.length≤1048576∧e.qual.length≤1048576∧e.val.length≤1048576):=by
 obtain ⟨fuel,hf⟩:=open_slice_top Tryz.underlying24 hval h
 obtain ⟨A,n,c,L,h1,h2,h3,h4,h5⟩:=upto_ents7 hf hb
 injection h1 with h1
 exact ⟨A,n,c,L,h1,by omega,h4,h5⟩
set_option maxRecDepth 100000 in
theorem open_opts {spare:Nat→Bool} {r:Reach} {b0:Nat} {v:Value} {d:DataW H} {ps:List MemPlace} (hval:Value.okWide Tryz.prog w r b0 23 v) (h:DataW.Trod enc Tryz.prog w base spare held 23 v d ps):∃ o:OptR,v=optV o:=by
 obtain ⟨cs,rfl,hsz⟩:=okWide_struct Tryz.underlying23 hval
 obtain ⟨fuel,hf⟩:=h
 have hC:Tryz.prog.cellsOf 23=5:=by kernel_rfl
 have hI:Tryz.prog.cellsOf 3=1:=by kernel_rfl
 rw [hC] at hsz
 obtain ⟨l⟩:=cs
 match l,hsz with
 | [v0,v1,v2,v3,v4],_ =>
  obtain ⟨xs,k,rfl,_,_,hlen,hi⟩:=DataW.trod_struct Tryz.underlying23 hf
  match xs,hlen with
  | [x0,x1,x2,x3,x4],_ =>
   have t0:DataW.trod enc Tryz.prog w base spare held k 3 (([v0,v1,v2,v3,v4].drop 0).take (Tryz.prog.cellsOf 3))=some x0:=hi 0 _ rfl
   have t1:DataW.trod enc Tryz.prog w base spare held k 3 (([v0,v1,v2,v3,v4].drop 1).take (Tryz.prog.cellsOf 3))=some x1:=hi 1 _ rfl
   have t2:DataW.trod enc Tryz.prog w base spare held k 3 (([v0,v1,v2,v3,v4].drop 2).take (Tryz.prog.cellsOf 3))=some x2:=hi 2 _ rfl
   have t3:DataW.trod enc Tryz.prog w base spare held k 3 (([v0,v1,v2,v3,v4].drop 3).take (Tryz.prog.cellsOf 3))=some x3:=hi 3 _ rfl
   have t4:DataW.trod enc Tryz.prog w base spare held k 3 (([v0,v1,v2,v3,v4].drop 4).take (Tryz.prog.cellsOf 3))=some x4:=hi 4 _ rfl
   rw [hI] at t0 t1 t2 t3 t4
   obtain ⟨i0,e0,_,_⟩:=DataW.trod_int Tryz.underlying3 t0
   obtain ⟨i1,e1,_,_⟩:=DataW.trod_int Tryz.underlying3 t1
   obtain ⟨i2,e2,_,_⟩:=DataW.trod_int Tryz.underlying3 t2
   obtain ⟨i3,e3,_,_⟩:=DataW.trod_int Tryz.underlying3 t3
   obtain ⟨i4,e4,_,_⟩:=DataW.trod_int Tryz.underlying3 t4
   injection e0 with e0 _
   injection e1 with e1 _
   injection e2 with e2 _
   injection e3 with e3 _
   injection e4 with e4 _
   have e0:v0=_:=e0
   have e1:v1=_:=e1
   have e2:v2=_:=e2
   have e3:v3=_:=e3
   have e4:v4=_:=e4
   subst e0 e1 e2 e3 e4
   exact ⟨⟨i0,i1,i2,i3,i4⟩,rfl⟩
end
end Go.Proofs.YtfdbcfaeiglbeaaGreatDoor
