/-
 What these laws need beside: BlockP6, Kit43, Kit44, RunP9, RunP11, RunW11, RunW12.
-/
import Derived.Test.YtfdbcfaeiglbeaaGreatDoorRZ1
import Derived.Test.YtfdbcfaeiglbeaaGreatDoorRZ2
import Derived.Test.YtfdbcfaeiglbeaaGreatDoorRZ3
import Derived.Test.YtfdbcfaeiglbeaaGreatDoorRZ4
import Derived.Test.YtfdbcfaeiglbeaaGreatDoorRZ5
import Derived.Test.YtfdbcfaeiglbeaaGreatDoorRZ6
import Derived.Test.YtfdbcfaeiglbeaaGreatDoorRZ7
import Derived.Test.YtfdbcfaeiglbeaaGreatDoorRZ8
import Derived.Test.YtfdbcfaeiglbeaaGreatDoorRZ9
import Derived.Test.YtfdbcfaeiglbeaaGreatDoorRZ10
import Derived.Test.YtfdbcfaeiglbeaaGreatDoorRZ11
import Derived.Test.YtfdbcfaeiglbeaaGreatDoorRZ12
import Derived.Test.YtfdbcfaeiglbeaaGreatDoorRZ13
import Derived.Test.YtfdbcfaeiglbeaaGreatDoorRZ15
import Derived.Test.YtfdbcfaeiglbeaaGreatDoorRZ16
import Derived.Test.YtfdbcfaeiglbeaaGreatDoorRZ18
import Derived.Test.YtfdbcfaeiglbeaaGreatDoorRZ19
import Derived.Test.YtfdbcfaeiglbeaaGreatDoorRZ20
import Derived.Test.YtfdbcfaeiglbeaaGreatDoorRZ21
import Derived.Test.YtfdbcfaeiglbeaaGreatDoorRZ22
import Derived.Test.YtfdbcfaeiglbeaaGreatDoorRZ23
import Derived.Test.YtfdbcfaeiglbeaaGreatDoorRZ24
import Derived.Test.YtfdbcfaeiglbeaaGreatDoorRZ25
import Derived.Test.YtfdbcfaeiglbeaaGreatDoorRZ26
import Derived.Test.YtfdbcfaeiglbeaaGreatDoorRZ27
import Derived.Test.YtfdbcfaeiglbeaaGreatDoorRZ28
import Derived.Test.YtfdbcfaeiglbeaaGreatDoorRZ29
import Derived.Test.YtfdbcfaeiglbeaaGreatDoorRZ30
import Derived.Test.YtfdbcfaeiglbeaaGreatDoorRZ31
import Derived.Test.YtfdbcfaeiglbeaaGreatDoorRZ32
import Derived.Test.YtfdbcfaeiglbeaaGreatDoorRZ33
import Derived.Test.YtfdbcfaeiglbeaaGreatDoorRZ34
import Derived.Test.YtfdbcfaeiglbeaaGreatDoorRZ35
import Derived.WalkKit
import Derived.WalkSpells
import Derived.WalkLawsBesides
import Derived.Deep.AppendLies
import Derived.Deep.Draws
import Derived.Maps.AppendAt
import Derived.Lib.Hide
import Derived.Deep.QuietTactic
import Derived.BigQuiet
import Derived.Laws.CopyOwn
import Derived.Laws.BitsAllLaws
import Derived.Maps.OwnSet
import Derived.Laws.IdiomStrings
import Derived.Deep.RegionWith
import Derived.Deep.RegionLaw
import Derived.Lib.BytesEntry
import Derived.Lib.Bytealg
import Derived.Laws.Externs
import Derived.Laws.EntriesVeiled
import Derived.Laws.OwnMore
import Derived.Deep.DeepCutAuto
import Derived.Deep.RegionHeld3
import Derived.Deep.CutRange
import Derived.Lib.SlBytesConst
import Derived.Deep.MidRow
import Derived.Great.BuildSlice
import Derived.RangeFuncNested
import Derived.RangeFuncBound
import Derived.RangeFuncCalls
import Derived.RangeFuncLeaves
import Derived.OwnWalkIn
import Derived.TacticsInMore
import Derived.LoopIn
import Derived.Shelf.Abstract
import Derived.StillTailTactics
import Derived.Lib.Walk
import Derived.Lib.SliceRun
import Derived.Lib.AppendZerosOnto
import Derived.BigRegion
import Derived.Maps.RangeWalk
import Derived.Sort.MapsRangeIn
import Derived.Lib.MinMax
import Derived.Deep.CutBlock
import Derived.Defers
import Derived.ProofKit
import Derived.SizedLaws
import Derived.Lib.SmallJoins
import Derived.Deep.Slices
import Derived.Deep.Fields
import Derived.OpenShut
import Derived.Deep.DeepHandedRow
import Derived.Lib.LaidTab
namespace Go.Proofs.YtfdbcfaeiglbeaaGreatDoor
theorem ins_len (m:List Ent) (e:Ent):(insE m e).length≤m.length + 1:=by
 unfold insE
 split
 ·omega
 ·rw [List.length_append,List.length_cons,List.length_take,List.length_drop];omega
end Go.Proofs.YtfdbcfaeiglbeaaGreatDoor
namespace Go.Proofs.YtfdbcfaeiglbeaaGreatDoor
open Go.RowKit
theorem run_call_dyn {P:Program} {ρ:Operand→Value} {o:Oper} {y:Operand} {xs:Array Operand} {ats:Array TypeId} (ho:o.op = .call { callee := .value y,args:=xs,argTypes:=ats }) {f:FuncId} {lb:Array Value} (hy:ρ y = .func (.func f) #[] lb) (hf:GoFn P f) (w:World) :
  (execOp ρ o).run P w = .ok (.enter f (xs.map ρ ++ lb)) w:=by
 obtain ⟨dst,op,type,pos,after,guard⟩:=o
 simp only at ho
 subst ho
 have h2:=run_callFunc_go hf (xs.map ρ ++ lb) w
 simp only [execOp,resolve,hy]
 simp [go_sem,invoke]
 exact h2
theorem wp_call_dyn {P:Program} {Q:Exit→Act→World→Prop} {o:Oper} {a:Act} {w:World} {K:Act→World→Prop} {y:Operand} {xs:List Operand} {ats:Array TypeId} (ho:o.op = .call { callee := .value y,args:=xs.toArray,argTypes:=ats }) {f:FuncId} {lb:List Value} (hy:a.eval y = .func (.func f) #[] lb.toArray) (hf:GoFn P f)
  (vals:List Value) (hv:xs.map a.eval=vals) (hc:Calls P f (vals ++ lb).toArray w fun e w'=>∃ v,e = .returned v∧K (a.put o.dst v) w'):o.wp P a w K Q:=by
 subst hv
 have hrun:=run_call_dyn (P:=P) ho hy hf w
 have e:xs.toArray.map a.eval ++ lb.toArray=(xs.map a.eval ++ lb).toArray:=by simp
 rw [e] at hrun
 unfold Oper.wp
 rw [hrun,Oper.upon_enter]
 refine hc.mono fun e w' ⟨v,he,hK⟩=>?_
 subst he
 exact hK
end Go.Proofs.YtfdbcfaeiglbeaaGreatDoor
namespace Go.Proofs.YtfdbcfaeiglbeaaGreatDoor
open Go.RowKit
section
variable {α : Type} {P : Program}
end
theorem wl_call_dyn {P:Program} {ops:Array Oper} {Q:Exit→Act→World→Prop} {rest:List Oper} {o:Oper} {a:Act} {w:World} (hgd:Region.wanted o (yielded ops a.tmps)=true) {y:Operand} {xs:List Operand} {ats:Array TypeId} (ho:o.op = .call { callee := .value y,args:=xs.toArray,argTypes:=ats }) {f:FuncId} {lb:List Value} (hy:a.eval y = .func (.func f) #[] lb.toArray) (hf:GoFn P f)
  (vals:List Value) (hv:xs.map a.eval=vals) (hc:Calls P f (vals ++ lb).toArray w fun e w'=>∃ v,e = .returned v∧wpList P ops Q rest (a.put o.dst v) w'):wpList P ops Q (o::rest) a w :=
 BigFrame.wpList_want hgd fun _ hk=>wp_call_dyn ho hy hf vals hv (hc.mono fun _ _ ⟨v,h1,h2⟩=>⟨v,h1,hk _ _ h2⟩)
end Go.Proofs.YtfdbcfaeiglbeaaGreatDoor
namespace Go.Proofs.YtfdbcfaeiglbeaaGreatDoor
open Go.RowKit
theorem cmpE_le_lt {a b c:Ent} (h1:cmpE a b≤0) (h2:cmpE b c < 0):cmpE a c < 0:=by
 have s1:=ord_E.swap a b
 have s2:=ord_E.swap b c
 have s3:=ord_E.swap a c
 refine Int.lt_of_not_ge fun h3=>?_
 have h4:cmpE c a≤0:=by omega
 have h5:cmpE c b≤0:=ord_E.trans c a b h4 h1
 omega
def skR (e:Ent) (p:PcR):Bool:=decide (cmpE (keyP p.b) e < 0)
def seekAt (e:Ent) (l:List PcR):Nat:=(l.takeWhile (skR e)).length
theorem seekAt_le (e:Ent):∀ l:List PcR,seekAt e l≤l.length
 | []=>Nat.le_refl _
 | p::l=>by
  have:=seekAt_le e l
  unfold seekAt at this ⊢
  rw [List.takeWhile_cons]
  split
  ·simp only [List.length_cons];omega
  ·exact Nat.zero_le _
theorem keyP_of {k:List UInt8} (h:(ParseKeyE k).2=0):OkE (keyP k)∧keyE (keyP k)=k:=⟨(ParseKey_is h).1,(ParseKey_is h).2.1⟩
theorem skR_mono {e:Ent}:∀ {l:List PcR},PsAsc l→l.Pairwise fun p q=>skR e q=true→skR e p=true
 | l,h=>by
  refine h.2.imp_of_mem fun {p q} mp mq hpq hq=>?_
  have op:=h.1 p mp
  have oq:=h.1 q mq
  have h1:cmpB p.b q.b < 0:=cmpB_lt_le hpq oq.le
  obtain ⟨k1,k2⟩:=keyP_of op.kb
  obtain ⟨k3,k4⟩:=keyP_of oq.kb
  rw [← k2,← k4,key_sorts k1 k3] at h1
  exact decide_eq_true (cmpE_lt_trans h1 (of_decide_eq_true hq))
theorem seekAt_iff {e:Ent}:∀ {l:List PcR},(l.Pairwise fun p q=>skR e q=true→skR e p=true)→∀ {i:Nat} {p:PcR},l[i]?=some p→skR e p=decide (i < seekAt e l)
 | [],_,i,p,h=>by cases i <;> cases h
 | a::l,hp,i,p,h=>by
  obtain ⟨h1,h2⟩:=List.pairwise_cons.1 hp
  unfold seekAt
  rw [List.takeWhile_cons]
  cases ha:skR e a with
  | true =>
   rw [if_pos rfl,List.length_cons]
   cases i with
   | zero=>cases h;rw [ha];exact (decide_eq_true (by omega)).symm
   | succ i =>
    have:=seekAt_iff h2 (i:=i) h
    rw [this]
    unfold seekAt
    exact decide_eq_decide.2 (by omega)
  | false =>
   rw [if_neg (by decide),List.length_nil]
   have hf:skR e p=false:=by
    cases i with
    | zero=>cases h;exact ha
    | succ i =>
     cases hsp:skR e p with
     | false=>rfl
     | true =>
      have:=h1 p (List.mem_of_getElem? h) hsp
      rw [ha] at this;exact this.symm
   rw [hf];exact (decide_eq_false (by omega)).symm
theorem asc_all_ge {e:Ent} {a:Ent} {L:List Ent} (h:AscE (a::L)) (ha:¬ cmpE a e < 0):∀ x,x ∈ a::L→¬ cmpE x e < 0:=by
 intro x hx hlt
 rcases List.mem_cons.1 hx with rfl | hx
 ·exact ha hlt
 ·exact ha (cmpE_lt_trans ((List.pairwise_cons.1 h).1 x hx) hlt)
theorem filter_ge {e:Ent} {L:List Ent} (h:∀ x,x ∈ L→¬ cmpE x e < 0):L.filter (fun x=>decide (0≤cmpE x e))=L :=
 List.filter_eq_self.2 fun x hx=>decide_eq_true (by have:=h x hx;omega)
theorem skip_filter {e:Ent}:∀ {L:List Ent},AscE L→skipE e L=L.filter (fun x=>decide (0≤cmpE x e))
 | [],_=>rfl
 | a::L,h=>by
  unfold skipE
  rw [List.dropWhile_cons]
  by_cases ha:cmpE a e < 0
  ·rw [if_pos (decide_eq_true ha),List.filter_cons,if_neg (by simp;omega)]
   exact skip_filter (List.pairwise_cons.1 h).2
  ·rw [if_neg (by simp;omega),filter_ge (asc_all_ge h ha)]
theorem keyP_keyE {e:Ent} (h:checkE e=0) (x:Ent):cmpE (keyP (keyE e)) x=cmpE e x:=by
 unfold keyP;rw [keyP_key h];rfl
theorem blk_ge {e:Ent} {p:PcR} {L:List Ent} (h:BlkF p L) (hg:¬ cmpE (keyP p.a) e < 0):∀ x,x ∈ L→¬ cmpE x e < 0:=by
 obtain ⟨b,_,_,_,a,ha,ma,ka⟩:=getLast_of h.ne
 have h1:¬ cmpE a e < 0:=by
  rw [← h.fst,ka,keyP_keyE (h.chk a ma)] at hg;exact hg
 match L,ha with
 | _::L,ha=>cases ha;exact asc_all_ge h.asc h1
theorem rest_ge {r:RunR} {e:Ent}:∀ {l:List PcR},PsAsc l→(∀ q,q ∈ l→¬ cmpE (keyP q.a) e < 0)→seekF r e l=restF r none l
 | [],_,_=>rfl
 | p::l,h,hg=>by
  have op:=h.1 p (.head _)
  have hpg:=hg p (.head _)
  have hl:PsAsc l:=⟨fun q hq=>h.1 q (.tail _ hq),(List.pairwise_cons.1 h.2).2⟩
  obtain ⟨k1,k2⟩:=keyP_of op.ka
  obtain ⟨k3,k4⟩:=keyP_of op.kb
  have hbe:¬ cmpE (keyP p.b) e < 0:=fun hh=>by
   have h1:=op.le
   rw [← k2,← k4,key_sorts k1 k3] at h1
   exact hpg (cmpE_le_lt h1 hh)
  have ih:=rest_ge (r:=r) (e:=e) hl fun q hq=>hg q (.tail _ hq)
  unfold seekF
  rw [if_neg hbe]
  cases hb:blkR r p with
  | none=>rw [restF_bad hb]
  | some L =>
   dsimp only
   rw [restF_none hb,ih,filter_ge (blk_ge (blkR_facts hb) hpg)]
theorem restF_seek {r:RunR} {e:Ent}:∀ {l:List PcR},PsAsc l→restF r (some e) (l.drop (seekAt e l))=seekF r e l
 | [],_=>rfl
 | p::l,h=>by
  have op:=h.1 p (.head _)
  obtain ⟨hp1,hp2⟩:=List.pairwise_cons.1 h.2
  have hl:PsAsc l:=⟨fun q hq=>h.1 q (.tail _ hq),hp2⟩
  unfold seekAt seekF
  rw [List.takeWhile_cons]
  by_cases hlt:cmpE (keyP p.b) e < 0
  ·rw [if_pos (show skR e p=true from decide_eq_true hlt),if_pos hlt,List.length_cons,List.drop_succ_cons]
   exact restF_seek hl
  ·rw [if_neg (by unfold skR;simp;omega),if_neg hlt,List.length_nil,List.drop_zero]
   have hge:∀ q,q ∈ l→¬ cmpE (keyP q.a) e < 0:=fun q hq hh=>by
    have oq:=h.1 q (.tail _ hq)
    obtain ⟨k1,k2⟩:=keyP_of op.kb
    obtain ⟨k3,k4⟩:=keyP_of oq.ka
    have h1:=hp1 q hq
    rw [← k2,← k4,key_sorts k1 k3] at h1
    exact hlt (cmpE_lt_trans h1 hh)
   cases hb:blkR r p with
   | none=>rw [restF_bad hb]
   | some L =>
    have hf:=blkR_facts hb
    dsimp only
    obtain ⟨b,hbl,mb,kb,_⟩:=getLast_of hf.ne
    have hbe:¬ cmpE b e < 0:=by
     rw [← hf.lst,kb,keyP_keyE (hf.chk b mb)] at hlt;exact hlt
    have hsk:skipE e L ≠ []:=by
     rw [skip_filter hf.asc]
     intro h0
     rw [List.filter_eq_nil_iff] at h0
     exact h0 b mb (decide_eq_true (by omega))
    rw [restF_some hb hsk,rest_ge hl hge,skip_filter hf.asc]
end Go.Proofs.YtfdbcfaeiglbeaaGreatDoor
namespace Go.Proofs.YtfdbcfaeiglbeaaGreatDoor
open Go.RowKit
theorem ord_len (index:Int) (es:List Ent):(ordL index es).length≤es.length:=by
 have h:∀ (es m:List Ent),(es.foldl (ordStep index) m).length≤m.length + es.length:=by
  intro es
  induction es with
  | nil=>intro m;exact Nat.le_refl _
  | cons e es ih =>
   intro m
   have h1:=ih (ordStep index m e)
   have h2:(ordStep index m e).length≤m.length + 1:=by
    unfold ordStep
    split
    ·omega
    ·exact ins_len m e
   simp only [List.foldl_cons,List.length_cons]
   omega
 have h1:=h es []
 rw [List.length_nil,Nat.zero_add] at h1
 exact h1
def optX (o:OptR):OptR:={ optF o with index:=1099511627776 }
theorem optX_ok (o:OptR):optOk (optX o)=true:=by
 have h1:=optF_ok o
 unfold optOk sealI at h1 ⊢
 simp only [Bool.and_eq_true,decide_eq_true_eq] at h1 ⊢
 show _∧_
 refine ⟨h1.1,⟨⟨⟨⟨?_,?_⟩,h1.2.1.1.1.2⟩,h1.2.1.1.2⟩,h1.2.1.2⟩,h1.2.2⟩
 ·show (0:Int)≤1099511627776;decide
 ·show (1099511627776:Int)≤1099511627776;decide
end Go.Proofs.YtfdbcfaeiglbeaaGreatDoor
namespace Go.Proofs.YtfdbcfaeiglbeaaGreatDoor
open Go.RowKit
set_option maxRecDepth 1000000 in
set_option maxHeartbeats 4000000 in
theorem search_any (n K:Nat) (hn:n≤1000000000) (hK:K≤n) (f:FuncId) (hf:GoFn Tryz.prog f) (lb:List Value) (J:World→Prop) (w:World) (h0:J w)
  (hc:∀ i:Nat,i < n→∀ z,J z→Calls Tryz.prog f ([Value.int .i64 (i:Int)] ++ lb).toArray z fun e y=>e = .returned (.bool (decide (K≤i)))∧J y) :
  Calls Tryz.prog 90 #[.int .i64 n,.func (.func f) #[] lb.toArray] w fun e z=>e = .returned (.int .i64 (K:Int))∧J z:=by
 have HC:=Lib.hid hc
 have HJ:=Lib.hid h0
 clear h0 hc
 go_enter Tryz.func90,Tryz.ntmps90
 go_wp2_with fail
 go_loopw [5,6,7] (fun iv jv _ wr=>∃ i j:Nat,i≤K∧K≤j∧j≤n∧iv = .int .i64 i∧jv = .int .i64 j∧Hid (J wr)) (fun iv jv _ _=>(intOf jv).toNat - (intOf iv).toNat)
 case atStart=>exact ⟨0,n,Nat.zero_le _,hK,Nat.le_refl _,rfl,rfl,HJ⟩
 case round =>
  clear HJ
  obtain ⟨i,j,hi,hj,hjn,rfl,rfl,HJ⟩:=hrel
  by_cases hlt:i < j
  case neg =>
   have hd:decide ((i:Int) < (j:Int))=false:=decide_eq_false (by omega)
   have hik:i=K:=by omega
   go_wp2_with fail
   go_ret
   exact ⟨by rw [hik];rfl,HJ.out⟩
  have hd:decide ((i:Int) < (j:Int))=true:=decide_eq_true (by omega)
  obtain ⟨m,hm⟩:∃ m,m=(i + j) / 2:=⟨_,rfl⟩
  have hm1:i≤m:=by omega
  have hm2:m < j:=by omega
  have t1:IntKind.i64.wrap ((i:Int) + (j:Int))=(i:Int) + (j:Int):=i64_sum (by omega) (by omega)
  have t2:IntKind.u64.wrap ((i:Int) + (j:Int))=(i:Int) + (j:Int):=IntWalk.u64_in _ ⟨by omega,by omega⟩
  have t3:((i:Int) + (j:Int)) / 2=(m:Int):=by omega
  have t4:IntKind.i64.wrap (m:Int)=(m:Int):=i64_sum (by omega) (by omega)
  have t5:IntKind.i64.wrap ((m:Int) + 1)=(m:Int) + 1:=i64_sum (by omega) (by omega)
  have HM:=Lib.hid hm1
  have HM2:=Lib.hid hm2
  clear hm
  by_cases hk:K≤m
  case pos =>
   have HKM:Hid (decide (K≤m)=true):=Lib.hid (decide_eq_true hk)
   go_wp2_with (refine wl_call_dyn rfl (y := .tmp 18) (xs:=[.tmp 19]) rfl (lb:=lb) rfl hf [.int .i64 (m:Int)] rfl ?_;refine (HC.out m (by omega) _ HJ.out).mono ?_;rw [HKM.out];rintro e z1 ⟨rfl,hz⟩;have HJ1:=Lib.hid hz;clear hz;refine ⟨_,rfl,?_⟩)
   go_roundw
   case rel=>exact ⟨i,m,hi,hk,by omega,rfl,rfl,HJ1⟩
   case measure=>simp [intOf];omega
  have HKM:Hid (decide (K≤m)=false):=Lib.hid (decide_eq_false hk)
  go_wp2_with (refine wl_call_dyn rfl (y := .tmp 18) (xs:=[.tmp 19]) rfl (lb:=lb) rfl hf [.int .i64 (m:Int)] rfl ?_;refine (HC.out m (by omega) _ HJ.out).mono ?_;rw [HKM.out];rintro e z1 ⟨rfl,hz⟩;have HJ1:=Lib.hid hz;clear hz;refine ⟨_,rfl,?_⟩)
  go_roundw
  case rel=>exact ⟨m + 1,j,by omega,hj,hjn,by go_num,rfl,HJ1⟩
  case measure=>simp [intOf];omega
set_option maxRecDepth 1000000 in
set_option maxHeartbeats 4000000 in
theorem seek1_any (q:RunRec) (hf:RunF q) (w:World) (h:RunAt q w) (e:Ent) (A:Option Addr) (n c:Nat) (B:Option Addr) (m d:Nat) (D:Option Addr) (v u:Nat) (he:En w A n c B m d D v u e) (g1 g2:Nat)
  (h1:w.cell? ⟨g1,0,none⟩=some (.pointer (some ⟨q.g,0,none⟩))) (h2:w.rangeAt g2 0 [.slice A n c,.int .i64 e.fam,.slice B m d,.int .i64 e.ts,.int .i64 e.seq,.int .i64 e.kind,.slice D v u]) (k:Nat) (r:PRec) (hk:q.rs[k]?=some r) :
  Calls Tryz.prog 91 #[.int .i64 (k:Int),.pointer (some ⟨g1,0,none⟩),.pointer (some ⟨g2,0,none⟩)] w fun a z=>a = .returned (.bool (!skR e r.p))∧Below w.heap.size w z:=by
 have hkl:=(List.getElem?_eq_some_iff.1 hk).1
 obtain ⟨g3,hPA,hr0⟩:=h.partR hk
 have b1:=World.block_lt_of_cell? w _ h1
 have b2:g2 < w.heap.size:=World.block_lt_of_cell? w _ (h2 0 _ rfl)
 have H1:Hid (∀ z,Below w.heap.size w z→z.cell? ⟨g1,0,none⟩=some (.pointer (some ⟨q.g,0,none⟩))):=Lib.hid fun z hz=>(hz.cell (p:=⟨g1,0,none⟩) b1).trans h1
 have H2:Hid (∀ z,Below w.heap.size w z→z.rangeAt g2 0 [.slice A n c,.int .i64 e.fam,.slice B m d,.int .i64 e.ts,.int .i64 e.seq,.int .i64 e.kind,.slice D v u]):=Lib.hid fun z hz j y hj=>(hz.cell (p:=⟨g2,0 + j,none⟩) b2).trans (h2 j y hj)
 have HE:Hid (∀ z,Below w.heap.size w z→En z A n c B m d D v u e):=Lib.hid fun z hz=>he.later hz
 have HRC:Hid (∀ z,Below w.heap.size w z→z.cell? ⟨g3,k * 4 + 1,none⟩=some (.slice r.B r.p.b.length r.d)):=Lib.hid fun z hz=>by
  obtain ⟨g',e1,e2⟩:=(h.later hz).partR hk
  rw [hPA] at e1
  injection e1 with e1
  injection e1 with e1 _ _
  subst e1
  exact e2 1 _ rfl
 have HC9:Hid (∀ z,Below w.heap.size w z→z.cell? ⟨q.g,9,none⟩=some (.slice (some ⟨g3,0,none⟩) q.rs.length q.pc)):=Lib.hid fun z hz=>(h.later hz).cell (j:=9) (by rw [← hPA];rfl)
 have HS:Hid (∀ z,Below w.heap.size w z→Sl z r.B r.p.b.length r.d r.p.b):=Lib.hid fun z hz=>((h.later hz).recm hk).2
 have hkb:=(pcin_len (hf.pin hk)).2
 obtain ⟨g,hg⟩:∃ z,z=q.g:=⟨_,rfl⟩
 obtain ⟨ml,hml⟩:∃ z,z=q.rs.length:=⟨_,rfl⟩
 obtain ⟨kb,hkbb⟩:∃ z,z=r.p.b:=⟨_,rfl⟩
 obtain ⟨bl,hbl⟩:∃ z,z=r.p.b.length:=⟨_,rfl⟩
 rw [← hg] at H1 HC9
 rw [← hml] at HC9 hkl
 rw [← hbl] at HRC HS hkb
 rw [← hkbb] at HS
 obtain ⟨E,hE⟩:∃ z,z=keyP kb:=⟨_,rfl⟩
 obtain ⟨z0,hz0⟩:∃ z,z=(ParseKeyE kb).2:=⟨_,rfl⟩
 obtain ⟨cv,hcv⟩:∃ z,z=cmpE E e:=⟨_,rfl⟩
 have HE1:Hid ((ParseKeyE kb).1=E):=Lib.hid hE.symm
 have HZ0:=Lib.hid hz0.symm
 have HCV:=Lib.hid hcv.symm
 have HSK:Hid (skR e r.p=decide (cv < 0)):=Lib.hid (by unfold skR;rw [← hkbb,← hE,← hcv])
 have HKB:Hid (bl≤140737488355000):=Lib.hid (by omega)
 clear h he h1 h2 hk hPA hr0 b1 b2 hg hml hkbb hbl hE hz0 hcv hkb hf
 have i1:(k:Int) < (ml:Int):=by omega
 have i2:(0:Int)≤(k:Int):=by omega
 have HX:=Lib.hid (OW.nil w)
 rw [HSK.out]
 obtain ⟨bo,hbo⟩:∃ b,b=decide (cv < 0):=⟨_,rfl⟩
 have HBO:Hid (decide (0≤cv)=!bo):=Lib.hid (by
  rw [hbo]
  by_cases h:cv < 0
  ·rw [decide_eq_true h,decide_eq_false (by omega)];rfl
  ·rw [decide_eq_false h,decide_eq_true (by omega)];rfl)
 rw [← hbo]
 have HBO2:Hid (decide (cv ≥ 0)=!bo):=HBO
 clear hbo
 go_enter Tryz.func91,Tryz.ntmps91
 go_upto_region 2 with (first
  | (refine wpList_load_cell rfl 41 (.tmp 1) rfl rfl (H1.out _ HX.out.up) Tryz.isAgg41 ?_)
  | (refine wpList_load_cell rfl 133 (.tmp 10) rfl rfl (HC9.out _ HX.out.up) Tryz.isAgg133 ?_)
  | (refine wpList_load_cell rfl 34 (.tmp 14) rfl rfl (HRC.out _ HX.out.up) Tryz.isAgg34 ?_)
  | (go_at_call 92;go_must (refine (parsekey_any kb _ _ _ _ (HS.out _ HX.out.up) HKB.out).mono ?_);rw [HE1.out,HZ0.out];rintro a x1 ⟨A1,c1,B1,d1,D1,u1,rfl,hr,hb⟩;have HX1:=Lib.hid (HX.out.app (OW.rows1 hb hr));clear hr hb HX)
  | (refine wl_alloc rfl rfl [.slice none 0 0,.int .i64 0,.slice none 0 0,.int .i64 0,.int .i64 0,.int .i64 0,.slice none 0 0] (.inl (by kernel_rfl)) HX1.out ?_;intro g5 x2 hz _;have HX2:Hid (OW w [bytO 5 (A1,c1,E.row),bytO 5 (B1,d1,E.qual),bytO 5 (D1,u1,E.val),boxO g5 [.slice none 0 0,.int .i64 0,.slice none 0 0,.int .i64 0,.int .i64 0,.int .i64 0,.slice none 0 0]] x2):=Lib.hid hz;clear hz HX1)
  | (refine wl_put rfl (.tmp 5) (.tmp 17) rfl HX2.out 3 rfl rfl [.slice A1 E.row.length c1,.int .i64 E.fam,.slice B1 E.qual.length d1,.int .i64 E.ts,.int .i64 E.seq,.int .i64 E.kind,.slice D1 E.val.length u1] rfl rfl (by kernel_rfl) (by simp [Value.oneCell']) ?_;intro x3 hz _;have HX3:Hid (OW w [bytO 5 (A1,c1,E.row),bytO 5 (B1,d1,E.qual),bytO 5 (D1,u1,E.val),boxO g5 [.slice A1 E.row.length c1,.int .i64 E.fam,.slice B1 E.qual.length d1,.int .i64 E.ts,.int .i64 E.seq,.int .i64 E.kind,.slice D1 E.val.length u1]] x3):=Lib.hid hz;clear hz HX2))
 have HEN:Hid (En x3 A1 E.row.length c1 B1 E.qual.length d1 D1 E.val.length u1 E):=Lib.hid ⟨HX3.out.sl (i:=0) rfl rfl,HX3.out.sl (i:=1) rfl rfl,HX3.out.sl (i:=2) rfl rfl⟩
 go_wp2_with (first
  | (refine wpList_load_row7 rfl 60 (.tmp 5) rfl rfl (HX3.out.range (i:=3) rfl) ent_row5 ?_)
  | (refine wpList_load_row7 rfl 60 (.tmp 2) rfl rfl (H2.out _ HX3.out.up) ent_row5 ?_)
  | (go_at_call 93;go_must (refine (compare_any E e A1 _ c1 B1 _ d1 D1 _ u1 A n c B m d D v u _ HEN.out (HE.out _ HX3.out.up)).mono ?_);rw [HCV.out];rintro a x4 ⟨rfl,hb⟩;have HX4:=Lib.hid (HX3.out.later hb);clear hb))
 go_ret
 exact ⟨by first | rfl | (rw [← HBO.out];rfl),HX4.out.up⟩
end Go.Proofs.YtfdbcfaeiglbeaaGreatDoor
namespace Go.Proofs.YtfdbcfaeiglbeaaGreatDoor
open Go.RowKit
theorem seekF_bare (r:RunR) (t:Ent):∀ l:List PcR,seekF r { t with val:=[] } l=seekF r t l
 | []=>rfl
 | p::l=>by
  unfold seekF
  rw [seekF_bare r t l]
  rfl
theorem seek_step {q:RunRec} {w:World} {t:Ent} {A:Option Addr} {n c:Nat} {B:Option Addr} {m d:Nat} {D:Option Addr} {v u N K g2 g3:Nat} (hf:RunF q) (hra:∀ z,Below w.heap.size w z→RunAt q z) (he:∀ z,Below w.heap.size w z→En z A n c B m d D v u t) (hN:N=q.r.ps.length) (hK:K=seekAt t q.r.ps) :
  ∀ i:Nat,i < N→∀ z,OW w [boxO g2 [.pointer (some ⟨q.g,0,none⟩)],boxO g3 [.slice A n c,.int .i64 t.fam,.slice B m d,.int .i64 t.ts,.int .i64 t.seq,.int .i64 t.kind,.slice D v u]] z→Calls Tryz.prog 91 ([Value.int .i64 (i:Int)] ++ [Value.pointer (some ⟨g2,0,none⟩),.pointer (some ⟨g3,0,none⟩)]).toArray z fun e y=>e = .returned (.bool (decide (K≤i)))∧OW w [boxO g2 [.pointer (some ⟨q.g,0,none⟩)],boxO g3 [.slice A n c,.int .i64 t.fam,.slice B m d,.int .i64 t.ts,.int .i64 t.seq,.int .i64 t.kind,.slice D v u]] y:=by
 intro i hi z hz
 obtain ⟨r,hr⟩:∃ r,q.rs[i]?=some r:=⟨_,List.getElem?_eq_getElem (by rw [hf.len,← hN];exact hi)⟩
 refine (seek1_any q hf z (hra z hz.up) t A n c B m d D v u (he z hz.up) g2 g3 (hz.cell (i:=0) (j:=0) rfl rfl) (hz.range (i:=1) rfl) i r hr).mono ?_
 rintro e y ⟨h1,hb⟩
 refine ⟨?_,hz.later hb⟩
 have h2:=seekAt_iff (skR_mono (e:=t) hf.asc) (hf.at_ hr)
 rw [h1,h2,← hK]
 by_cases h:i < K
 ·rw [decide_eq_true h,decide_eq_false (by omega)];rfl
 ·rw [decide_eq_false h,decide_eq_true (by omega)];rfl
def SeekP7 (q:RunRec) (t:Ent) (w:World) (e:Ending) (z:World):Prop:=∃ c:CurR,c.Ok q.r∧c.rest q.r=seekF q.r t q.r.ps∧e = .returned (.pointer (some ⟨c.g,0,none⟩))∧OW w (c.obs q) z
set_option maxRecDepth 1000000 in
set_option maxHeartbeats 4000000 in
theorem seek7_any (q:RunRec) (hf:RunF q) (w:World) (h:RunAt q w) (t:Ent) (A:Option Addr) (n c:Nat) (B:Option Addr) (m d:Nat) (D:Option Addr) (v u:Nat) (he:En w A n c B m d D v u t) (hn:n≤140737488355328∧m≤140737488355328) :
  Calls Tryz.prog 35 #[.pointer (some ⟨q.g,0,none⟩),entV A n c B m d D v u t] w (SeekP7 q t w):=by
 obtain ⟨K,hK⟩:∃ K,K=seekAt t q.r.ps:=⟨_,rfl⟩
 have hKn:K≤q.r.ps.length:=by rw [hK];exact seekAt_le _ _
 have HRA:Hid (∀ z,Below w.heap.size w z→RunAt q z):=Lib.hid fun z hz=>h.later hz
 have HE:Hid (∀ z,Below w.heap.size w z→En z A n c B m d D v u t):=Lib.hid fun z hz=>he.later hz
 have HF:=Lib.hid hf
 have HK:=Lib.hid hK
 have HLR:=Lib.hid he.row.len
 have HLQ:=Lib.hid he.qual.len
 have HNR:Hid ((A=none→c=0)∧(B=none→d=0)):=Lib.hid ⟨he.row.nil,he.qual.nil⟩
 obtain ⟨N,hN⟩:∃ N,N=q.r.ps.length:=⟨_,rfl⟩
 have HN:=Lib.hid hN
 have hN9:N≤16777216:=by rw [hN];exact hf.few
 rw [← hN] at hKn
 have HC9:Hid (∀ z,Below w.heap.size w z→z.cell? ⟨q.g,9,none⟩=some (.slice q.PA N q.pc)):=Lib.hid fun z hz=>by rw [hN,← hf.len];exact (h.later hz).cell rfl
 obtain ⟨hn1,hn2⟩:=hn
 have HPF:Hid (∀ e z,SeekP7 q t w e z→SeekP7 q t w e z):=Lib.hid fun _ _ h=>h
 obtain ⟨PP,hPP⟩:∃ p,p=SeekP7 q t w:=⟨_,rfl⟩
 rw [← hPP]
 have HPP:Hid (∀ e z,SeekP7 q t w e z→PP e z):=Lib.hid fun e z h=>by rw [hPP];exact h
 clear h hf he hK hN hPP HPF
 unfold entV
 have HX:=Lib.hid (OW.nil w)
 have tok:True:=trivial
 go_enter Tryz.func35,Tryz.ntmps35
 go_upto_region 2 with (first
  | (refine wl_box rfl (.tmp 0) rfl [.pointer (some ⟨q.g,0,none⟩)] rfl HX.out ?_;intro g2 x1 hz _;have HX1:Hid (OW w [boxO g2 [.pointer (some ⟨q.g,0,none⟩)]] x1):=Lib.hid hz;clear hz HX)
  | (refine wl_box rfl (.tmp 1) rfl [.slice A n c,.int .i64 t.fam,.slice B m d,.int .i64 t.ts,.int .i64 t.seq,.int .i64 t.kind,.slice D v u] rfl HX1.out ?_;intro g3 x2 hz _;have HX2:Hid (OW w [boxO g2 [.pointer (some ⟨q.g,0,none⟩)],boxO g3 [.slice A n c,.int .i64 t.fam,.slice B m d,.int .i64 t.ts,.int .i64 t.seq,.int .i64 t.kind,.slice D v u]] x2):=Lib.hid hz;clear hz HX1)
  | (refine wpList_load_cell rfl 41 (.tmp 2) rfl rfl (HX2.out.cell (i:=0) (j:=0) rfl rfl) Tryz.isAgg41 ?_)
  | (refine wpList_load_cell rfl 133 (.tmp 8) rfl rfl (HC9.out _ HX2.out.up) Tryz.isAgg133 ?_)
  | (go_at_call 90;go_must (refine (search_any N K (by omega) hKn 91 ⟨_,Tryz.func91,by decide,by kernel_rfl⟩ [.pointer (some ⟨g2,0,none⟩),.pointer (some ⟨g3,0,none⟩)] (fun z=>OW w [boxO g2 [.pointer (some ⟨q.g,0,none⟩)],boxO g3 [.slice A n c,.int .i64 t.fam,.slice B m d,.int .i64 t.ts,.int .i64 t.seq,.int .i64 t.kind,.slice D v u]] z) _ HX2.out (seek_step HF.out HRA.out HE.out HN.out HK.out)).mono ?_);rintro e x3 ⟨rfl,hz⟩;have HX3:Hid (OW w [boxO g2 [.pointer (some ⟨q.g,0,none⟩)],boxO g3 [.slice A n c,.int .i64 t.fam,.slice B m d,.int .i64 t.ts,.int .i64 t.seq,.int .i64 t.kind,.slice D v u]] x3):=Lib.hid hz;clear hz HX2))
 refine lt_start [7,9,11] (by kernel_rfl) ?_
 intro xd hd
 refine ⟨fun z=>OW w [boxO g2 [.pointer (some ⟨q.g,0,none⟩)],boxO g3 [.slice A n c,.int .i64 t.fam,.slice B m d,.int .i64 t.ts,.int .i64 t.seq,.int .i64 t.kind,.slice D v u]] z,?_⟩
 have HS:=Lib.hid (HX3.out.later hd)
 refine lp2 0 rfl (fun _=>HS.out) ?_
 simp only [Act.put,ls]
 refine lq 1 [2,5,6,7,8,9,10,11] rfl (yi_cell rfl rfl rfl (fun w hS=>OW.cell hS (i:=1) (j:=0) rfl rfl) Tryz.isAgg34) HS.out ?_
 simp only [Act.put,ls]
 refine lp2 3 rfl (fun _=>HS.out) ?_
 simp only [Act.put,ls]
 refine lq 4 [5,6,7,8,9,10,11] rfl (yi_cell rfl rfl rfl (fun w hS=>OW.cell hS (i:=1) (j:=2) rfl rfl) Tryz.isAgg34) HS.out ?_
 simp only [Act.put,ls]
 refine lt_call 2 rfl (by kernel_rfl) rfl rfl ⟨_,Tryz.func69,by decide,by kernel_rfl⟩ [.slice A n c] rfl ?_
 refine (clone_any t.row A n c _ (by omega) HNR.out.1 (HE.out _ HS.out.up).row.rb).mono ?_
 rintro e z8 hp
 obtain ⟨A1,c1,rfl,_,ho,hb⟩:=hp.at_ rfl
 have HX5:=Lib.hid (HS.out.app (OW.byt1 hb ho))
 replace HS:=Lib.hid (HS.out.later hb)
 clear hp ho hb
 refine ⟨_,rfl,fun _=>HS.out,?_⟩
 simp only [Act.put,ls]
 refine lp2 6 rfl (fun _=>HS.out) ?_
 simp only [Act.put,ls]
 refine lt_call 5 rfl (by kernel_rfl) rfl rfl ⟨_,Tryz.func69,by decide,by kernel_rfl⟩ [.slice B m d] rfl ?_
 refine (clone_any t.qual B m d _ (by omega) HNR.out.2 (HE.out _ HS.out.up).qual.rb).mono ?_
 rintro e z8 hp
 obtain ⟨B1,d1,rfl,_,ho,hb⟩:=hp.at_ rfl
 have HX5:=Lib.hid (HX5.out.app (OW.byt1 hb ho))
 replace HS:=Lib.hid (HS.out.later hb)
 clear hp ho hb
 refine ⟨_,rfl,fun _=>HS.out,?_⟩
 simp only [Act.put,ls]
 refine lt_end 7 rfl (by kernel_rfl) rfl (by kernel_rfl) ?_
 refine wpo_put1 rfl HX5.out 1 rfl 0 rfl (by simp) (.slice A1 t.row.length c1) rfl (by kernel_rfl) rfl ?_
 intro z9 hz _
 replace HX5:=Lib.hid hz
 clear hz
 simp only [Act.put]
 refine lt_pureF 8 rfl (by kernel_rfl) (by kernel_rfl) (by kernel_rfl) (by kernel_rfl) (by kernel_rfl) (fun _ _ _ h=>h) (v:=?_) (yi_run rfl (fun w=>?_)) ?_
 rotate_left
 ·first | (go_simp;done) | (go_simp;with_reducible rfl)
 simp only [Act.put,ls]
 refine lt_end 9 rfl (by kernel_rfl) rfl (by kernel_rfl) ?_
 refine wpo_put1 rfl HX5.out 1 rfl 2 rfl (by simp) (.slice B1 t.qual.length d1) rfl (by kernel_rfl) rfl ?_
 intro z9 hz _
 replace HX5:=Lib.hid hz
 clear hz
 simp only [Act.put]
 refine lt_pureF 10 rfl (by kernel_rfl) (by kernel_rfl) (by kernel_rfl) (by kernel_rfl) (by kernel_rfl) (fun _ _ _ h=>h) (v:=?_) (yi_run rfl (fun w=>?_)) ?_
 rotate_left
 ·first | (go_simp;done) | (go_simp;with_reducible rfl)
 simp only [Act.put,ls]
 refine lt_end 11 rfl (by kernel_rfl) rfl (by kernel_rfl) ?_
 refine wpo_put1 rfl HX5.out 1 rfl 6 rfl (by simp) (.slice none 0 0) rfl (by kernel_rfl) rfl ?_
 intro z9 hz _
 replace HX5:=Lib.hid hz
 clear hz
 simp only [Act.put]
 refine lt_done (by kernel_rfl) ?_
 clear HS
 have HX4:Hid (OW w [boxO g2 [.pointer (some ⟨q.g,0,none⟩)],boxO g3 [.slice A1 t.row.length c1,.int .i64 t.fam,.slice B1 t.qual.length d1,.int .i64 t.ts,.int .i64 t.seq,.int .i64 t.kind,.slice none 0 0],bytO 5 (A1,c1,t.row),bytO 5 (B1,d1,t.qual)] z9):=HX5
 clear HX5
 clear HX3
 go_wp2_with (first
  | (refine wpList_load_cell rfl 41 (.tmp 2) rfl rfl (HX4.out.cell (i:=0) (j:=0) rfl rfl) Tryz.isAgg41 ?_)
  | (refine wpList_load_row7 rfl 60 (.tmp 3) rfl rfl (HX4.out.range (i:=1) rfl) ent_row5 ?_)
  | (refine wl_box rfl (.tmp 25) rfl [.pointer (some ⟨q.g,0,none⟩),.int .i64 (K:Int),.pointer none,.int .i64 0,.bool true,.slice A1 t.row.length c1,.int .i64 t.fam,.slice B1 t.qual.length d1,.int .i64 t.ts,.int .i64 t.seq,.int .i64 t.kind,.slice none 0 0,.int .i64 0] rfl HX4.out ?_;intro gc x9 hz _;have HX9:Hid (OW w ([boxO g2 [.pointer (some ⟨q.g,0,none⟩)],boxO g3 [.slice A1 t.row.length c1,.int .i64 t.fam,.slice B1 t.qual.length d1,.int .i64 t.ts,.int .i64 t.seq,.int .i64 t.kind,.slice none 0 0],bytO 5 (A1,c1,t.row),bytO 5 (B1,d1,t.qual)] ++ [boxO gc [.pointer (some ⟨q.g,0,none⟩),.int .i64 (K:Int),.pointer none,.int .i64 0,.bool true,.slice A1 t.row.length c1,.int .i64 t.fam,.slice B1 t.qual.length d1,.int .i64 t.ts,.int .i64 t.seq,.int .i64 t.kind,.slice none 0 0,.int .i64 0]]) x9):=Lib.hid hz;clear hz HX4))
 refine HPP.out _ _ ⟨⟨gc,K,.pointer none,[],[],0,true,{ t with val:=[] },A1,c1,B1,d1,0⟩,⟨.inl ⟨rfl,rfl,rfl⟩,(by show K≤_;rw [← HN.out];exact hKn),Nat.zero_le _,(fun _=>rfl),(fun _ h=>by cases h),Nat.zero_le _,rfl,.inl rfl⟩,?_,rfl,?_⟩
 ·unfold CurR.rest
  dsimp only
  rw [if_neg (by decide)]
  show ([] ++ (restF q.r (some { t with val:=[] }) (q.r.ps.drop K)).1,(restF q.r (some { t with val:=[] }) (q.r.ps.drop K)).2)=_
  have h1:=restF_seek (r:=q.r) (e:={ t with val:=[] }) HF.out.asc
  have h2:seekAt { t with val:=[] } q.r.ps=seekAt t q.r.ps:=rfl
  rw [h2,← HK.out] at h1
  rw [h1]
  show seekF q.r { t with val:=[] } q.r.ps=_
  exact seekF_bare q.r t q.r.ps
 ·have hz:OW w ([bytO 5 (A1,c1,t.row),bytO 5 (B1,d1,t.qual)] ++ [boxO gc [.pointer (some ⟨q.g,0,none⟩),.int .i64 (K:Int),.pointer none,.int .i64 0,.bool true,.slice A1 t.row.length c1,.int .i64 t.fam,.slice B1 t.qual.length d1,.int .i64 t.ts,.int .i64 t.seq,.int .i64 t.kind,.slice none 0 0,.int .i64 0]]) x9:=HX9.out.sub (((List.Sublist.refl _).cons _).cons _)
  exact hz.perm List.perm_append_comm
end Go.Proofs.YtfdbcfaeiglbeaaGreatDoor
