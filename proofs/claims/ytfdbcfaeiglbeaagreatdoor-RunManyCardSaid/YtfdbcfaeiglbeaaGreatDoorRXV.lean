/-
 What these laws need beside: Kit, Kit5, Kit7, WireW13, Kit34, Kit40, Kit41, FullK, FullK2, BlockA1, BlockS4, RunW1, RunB2.
-/
import Derived.Test.YtfdbcfaeiglbeaaGreatDoorRZ1
import Derived.Test.YtfdbcfaeiglbeaaGreatDoorRZ2
import Derived.Test.YtfdbcfaeiglbeaaGreatDoorRZ3
import Derived.Test.YtfdbcfaeiglbeaaGreatDoorRZ4
import Derived.Test.YtfdbcfaeiglbeaaGreatDoorRZ5
import Derived.Test.YtfdbcfaeiglbeaaGreatDoorRZ6
import Derived.Test.YtfdbcfaeiglbeaaGreatDoorRZ7
import Derived.Test.YtfdbcfaeiglbeaaGreatDoorRZ8
import Derived.Test.YtfdbcfaeiglbeaaGreatDoorRZ9
import Derived.Test.YtfdbcfaeiglbeaaGreatDoorRZ10
import Derived.Test.YtfdbcfaeiglbeaaGreatDoorRZ11
import Derived.Test.YtfdbcfaeiglbeaaGreatDoorRZ12
import Derived.Test.YtfdbcfaeiglbeaaGreatDoorRZ13
import Derived.Test.YtfdbcfaeiglbeaaGreatDoorRZ15
import Derived.Test.YtfdbcfaeiglbeaaGreatDoorRZ16
import Derived.Test.YtfdbcfaeiglbeaaGreatDoorRZ18
import Derived.Test.YtfdbcfaeiglbeaaGreatDoorRZ19
import Derived.Test.YtfdbcfaeiglbeaaGreatDoorRZ20
import Derived.Test.YtfdbcfaeiglbeaaGreatDoorRZ21
import Derived.Test.YtfdbcfaeiglbeaaGreatDoorRZ22
import Derived.Test.YtfdbcfaeiglbeaaGreatDoorRZ23
import Derived.Test.YtfdbcfaeiglbeaaGreatDoorRZ24
import Derived.Test.YtfdbcfaeiglbeaaGreatDoorRZ25
import Derived.Test.YtfdbcfaeiglbeaaGreatDoorRZ26
import Derived.Test.YtfdbcfaeiglbeaaGreatDoorRZ27
import Derived.Test.YtfdbcfaeiglbeaaGreatDoorRZ28
import Derived.Test.YtfdbcfaeiglbeaaGreatDoorRZ29
import Derived.Test.YtfdbcfaeiglbeaaGreatDoorRZ30
import Derived.Test.YtfdbcfaeiglbeaaGreatDoorRZ31
import Derived.Test.YtfdbcfaeiglbeaaGreatDoorRZ32
import Derived.Test.YtfdbcfaeiglbeaaGreatDoorRZ33
import Derived.Test.YtfdbcfaeiglbeaaGreatDoorRZ34
import Derived.Test.YtfdbcfaeiglbeaaGreatDoorRZ35
import Derived.WalkKit
import Derived.WalkSpells
import Derived.WalkLawsBesides
import Derived.Deep.AppendLies
import Derived.Deep.Draws
import Derived.Maps.AppendAt
import Derived.Lib.Hide
import Derived.Deep.QuietTactic
import Derived.BigQuiet
import Derived.Laws.CopyOwn
import Derived.Laws.BitsAllLaws
import Derived.Maps.OwnSet
import Derived.Laws.IdiomStrings
import Derived.Deep.RegionWith
import Derived.Deep.RegionLaw
import Derived.Lib.BytesEntry
import Derived.Lib.Bytealg
import Derived.Laws.Externs
import Derived.Laws.EntriesVeiled
import Derived.Laws.OwnMore
import Derived.Deep.DeepCutAuto
import Derived.Deep.RegionHeld3
import Derived.Deep.CutRange
import Derived.Lib.SlBytesConst
import Derived.Deep.MidRow
import Derived.Great.BuildSlice
import Derived.RangeFuncNested
import Derived.RangeFuncBound
import Derived.RangeFuncCalls
import Derived.RangeFuncLeaves
import Derived.OwnWalkIn
import Derived.TacticsInMore
import Derived.LoopIn
import Derived.Shelf.Abstract
import Derived.StillTailTactics
import Derived.Lib.Walk
import Derived.Lib.SliceRun
import Derived.Lib.AppendZerosOnto
import Derived.BigRegion
import Derived.Maps.RangeWalk
import Derived.Sort.MapsRangeIn
import Derived.Lib.MinMax
import Derived.Deep.CutBlock
import Derived.Defers
namespace Go.Proofs.YtfdbcfaeiglbeaaGreatDoor
open Go.RowKit
section
variable {w w' : World} {B B' size n : Nat} {A : Option Addr} {xs : List Value}
end
section
variable {P : Program} (w : World)
end
instance (W:World):Nonempty (Later W):=⟨Later.now W⟩
theorem Later.calls {P:Program} {f:FuncId} {args:Array Value} {W:World} {L:Later W} {v:Value}
  (h:Calls P f args L.w fun e w'=>e = .returned v∧Below L.w.heap.size L.w w'):Calls P f args L.w fun e w''=>e = .returned v∧∃ L':Later W,w''=L'.w :=
 h.mono fun _ _ ⟨he,hb⟩=>⟨he,L.then hb,rfl⟩
section
variable {P : Program}
end
end Go.Proofs.YtfdbcfaeiglbeaaGreatDoor
namespace Go.Proofs.YtfdbcfaeiglbeaaGreatDoor
open Go.RowKit
section
variable {w x y : World} {A : Option Addr} {n c : Nat} {l : List UInt8} {row row' : Option Nat}
theorem Sl.block_lt (h:Sl w A n c l) (hn:0 < n):∀ a,A=some a→a.block < w.heap.size:=by
 intro a ha
 obtain ⟨b,o,e,hb,_⟩:=h.rb.2 hn
 rw [ha] at e;injection e with e;subst e;exact hb
end
section
variable {w x y : World} {row row' : Option Nat} {vs : List Value} {ks : List (List UInt8)} {more : List UInt8}
theorem Fam.step (h:Fam w row vs ks more) (hm:0 < more.length) (hg:w.grownBy x row) (hr:row'=row∨row'=some w.heap.size):Fam x row' vs ks more :=
 ⟨h.1,fun i k hk=>by
  obtain ⟨a,c,q1,q2,q3⟩:=h.2 i k hk
  refine ⟨a,c,q1,q2.apart hg (fun _=>q3),fun z hz=>?_⟩
  rcases hr with rfl | rfl
  ·exact q3 z hz
  ·have:=q2.block_lt (by omega) z hz
   intro e;injection e with e;omega⟩
end
end Go.Proofs.YtfdbcfaeiglbeaaGreatDoor
namespace Go.Proofs.YtfdbcfaeiglbeaaGreatDoor
open Go.RowKit
section
variable {w x y : World} {row row' : Option Nat} {vs : List Value} {ks : List (List UInt8)} {S : Nat → Prop}
theorem FamS.step (h:FamS w row vs ks) (hg:w.grownBy x row) (hr:row'=row∨row'=some w.heap.size):FamS x row' vs ks :=
 ⟨h.1,fun i k hk=>by
  obtain ⟨a,c,q1,q2,q3⟩:=h.2 i k hk
  refine ⟨a,c,q1,q2.apart hg q3,fun h0 z hz=>?_⟩
  rcases hr with rfl | rfl
  ·exact q3 h0 z hz
  ·have:=q2.block_lt h0 z hz
   intro e;injection e with e;omega⟩
end
section
variable {P : Program} (w : World)
end
end Go.Proofs.YtfdbcfaeiglbeaaGreatDoor
namespace Go.Proofs.YtfdbcfaeiglbeaaGreatDoor
open Go.RowKit
theorem Sl.over {w x y:World} {A:Option Addr} {n c g:Nat} {l:List UInt8} (h:Sl w A n c l) (hb:Below w.heap.size w x) (hg:x.grownBy y (some g)) (hle:w.heap.size≤g):Sl y A n c l :=
 ⟨Reads.more (Reads.grown (h.rb.below hb) hg hb.size (fun _ e=>by injection e with e;omega)) (Nat.le_trans hb.size hg.size),h.cap,h.lim,h.nil⟩
end Go.Proofs.YtfdbcfaeiglbeaaGreatDoor
namespace Go.Proofs.YtfdbcfaeiglbeaaGreatDoor
open Go.RowKit
section
variable {w x : World} {os : List Ob} {i c n : Nat} {T : TypeId} {A : Option Addr} {l : List UInt8}
theorem OW.clipSlm (h:OW w os x) (hc:CAt A l) (hi:clipO A l ∈ os) (hn:l.length=n) (hm:n≤9223372036854775807):Sl x A n n l:=by
 obtain ⟨i,hi⟩:=List.getElem?_of_mem hi
 exact h.clipSl hc hi hn hm
end
end Go.Proofs.YtfdbcfaeiglbeaaGreatDoor
namespace Go.Proofs.YtfdbcfaeiglbeaaGreatDoor
open Go.RowKit
abbrev FW (ro:Option Nat):Fence:={ Fence.wide with round:=ro }
theorem rowsIn_wide {n:Nat} {P:Program} {row:String} {args:Array Value} {w:World} {R:Value→World→Prop} (h:Rows P row args w R):RowsIn Fence.wide n P row args w R :=
 fun c cs _=>let ⟨v,w',r,s⟩:=h c cs;⟨v,w',r,stepsIn_wide.2 s⟩
theorem callsIn_fw {ro:Option Nat} {n:Nat} {P:Program} {f:FuncId} {args:Array Value} {w:World} {R:Ending→World→Prop} (h:Calls P f args w R):CallsIn (FW ro) n P f args w R :=
 (callsIn_wide (n:=n)).2 h
section
variable {P : Program} {ro : Option Nat} {n : Nat} {o : Oper} {a : Act} {w : World} {K K' : Act → World → Prop} {Q : Exit → Act → World → Prop}
theorem upon_in {r:Result Next} (hK:∀ a w,K a w→K' a w) (h:o.upon P a K Q r):o.uponIn (FW ro) n P a K' Q r:=by
 unfold Oper.upon at h
 split at h
 ·exact hK _ _ h
 ·exact hK _ _ h
 ·exact hK _ _ h
 ·refine ⟨(fun e=>nomatch e),(callsIn_fw h).mono fun e w' h=>?_⟩
  cases e with
  | returned v=>exact hK _ _ h
  | panicked chain=>exact h
  | outgrown=>exact h
 ·exact ⟨(fun e=>nomatch e),RowsIn.mono (rowsIn_wide h) fun v w' h=>hK _ _ h⟩
 ·exact h
 ·exact h.elim
theorem wp_in (hd:∀ c,o.op ≠ .defer c) (hK:∀ a w,K a w→K' a w) (h:o.wp P a w K Q):o.wpIn (FW ro) n P a w K' Q :=
 ⟨fun _ _=>trivial,by rw [Oper.semAt_plain _ _ _ hd];exact upon_in hK h⟩
def noDef (l:List Oper):Bool:=l.all fun o=>match o.op with
 | .defer _=>false
 | _=>true
theorem noDef_at {l:List Oper} (h:noDef l=true) (ho:o ∈ l) (c:Call):o.op ≠ .defer c:=fun e=>by
 have h1:=List.all_eq_true.1 h o ho
 rw [e] at h1;cases h1
def qIn (F:Fence) (n:Nat) (P:Program) (ops:Array Oper) (Q:Exit→Act→World→Prop) (rest:List Oper):Exit→Act→World→Prop
 | .normal,a,w=>wpListIn F n P ops Q rest a w
 | .outgrown,_,_=>False
 | .exit id,a,w=>Q (.exit id) a w
 | .goto l,a,w=>Q (.goto l) a w
 | .ret,a,w=>Q .ret a w
 | .panic c,a,w=>Q (.panic c) a w
theorem upon_q {F:Fence} {ops:Array Oper} {rest:List Oper} {r:Result Next} (h:o.upon P a K (qIn F n P ops Q rest) r):o.upon P a K Q r:=by
 unfold Oper.upon at h ⊢
 split at h
 ·exact h
 ·exact h
 ·exact h
 ·refine Calls.mono h fun e w' h=>?_
  cases e with
  | returned v=>exact h
  | panicked chain=>exact h
  | outgrown=>obtain ⟨_,_,h⟩:=h;exact h.elim
 ·exact h
 ·exact h
 ·exact h.elim
theorem wlIn_one {ops:Array Oper} {rest:List Oper} (hd:noDef [o]=true) (h:wpList P ops (qIn (FW ro) n P ops Q rest) [o] a w):wpListIn (FW ro) n P ops Q (o::rest) a w:=by
 unfold wpList at h
 unfold wpListIn
 split
 ·rename_i hw
  rw [if_pos hw] at h
  rcases h with h | ⟨_,a',w',h⟩
  ·exact wp_in (noDef_at hd (List.mem_cons_self ..)) (fun a w h=>h) (upon_q h)
  ·exact h.elim
 ·rename_i hw
  rw [if_neg hw] at h
  exact ⟨(fun _ _=>trivial),h⟩
theorem wlIn_back {F:Fence} {ops:Array Oper} {rest:List Oper} (h:wpListIn F n P ops Q rest a w):wpList P ops (qIn F n P ops Q rest) [] a w:=h
theorem wpOpsIn_of {ops:Array Oper} (hQ:∀ a w,¬ Q .outgrown a w) (hd:noDef ops.toList=true):∀ (l:List Nat) (a:Act) (w:World),wpOps P ops Q l a w→wpOpsIn (FW ro) n P ops Q l a w
 | [],_,_,h=>h
 | i::l,a,w,h=>by
  unfold wpOps at h
  unfold wpOpsIn
  cases ho:ops[i]? with
  | none=>rw [ho] at h;exact wpOpsIn_of hQ hd l a w h
  | some o =>
   rw [ho] at h
   simp only [] at h ⊢
   split
   ·rename_i hw
    rw [if_pos hw] at h
    rcases h with h | ⟨_,a',w',h⟩
    ·exact wp_in (noDef_at hd (Array.mem_toList_iff.2 (Array.mem_of_getElem? ho))) (fun a w=>wpOpsIn_of hQ hd l a w) h
    ·exact (hQ _ _ h).elim
   ·rename_i hw
    rw [if_neg hw] at h
    exact ⟨(fun _ _=>trivial),wpOpsIn_of hQ hd l _ _ h⟩
theorem lt_startIn {id:Nat} {l:List Oper} (F:List Nat) (hm:P.follows .mixedOrders=true) (hd:noDef l=true) (hQ:∀ a w,¬ Q .outgrown a w) (h:∀ z,Below w.heap.size w z→∃ S,wpAnyT P l.toArray Q F S l.length (Array.replicate l.length false) a z):(Code.region id l.toArray true).wpIn (FW ro) n P Q a w:=by
 obtain ⟨S,h⟩:=h w.drew (Below.refl _ _).drew
 refine wpIn_region_draw fun t=>wpOpsIn_of hQ (by simpa using hd) _ _ _ ?_
 simp only [Region.schedule,hm,Bool.true_or,if_true]
 exact wpAny_sound _ t _ a _ (wpAny_of_T _ _ _ _ (by simpa using h))
end
section
variable {w x y : World} {os : List Ob} {i k : Nat} {r : Obj}
theorem chg_putObj (x:World) (k:Nat) (o:Obj):Chg (fun b=>b=k) x (x.putObj k o) :=
 ⟨rfl,rfl,rfl,by rw [World.putObj_size];exact Nat.le_refl _,fun j _ hne=>World.putObj_heap_other hne⟩
theorem OW.putRaw (h:OW w os x) (hi:os[i]?=some (rawO k r)) (r':Obj):OW w (os.set i (rawO k r')) (x.putObj k r'):=by
 obtain ⟨h1,h2⟩:=h.rawh hi
 exact h.upd hi (chg_putObj x k r') (fun b _ e=>by subst e;rfl) (Ob.at_mkr rfl ⟨k,r',rfl,h1,World.putObj_heap_same (Array.getElem?_eq_some_iff.1 h2).1,rfl⟩) fun b hb => .inl hb
theorem getE_app {α:Type} (os:List α) (a:α) (ds:List α):(os ++ a::ds)[os.length]?=some a:=by
 rw [List.getElem?_append_right (Nat.le_refl _),Nat.sub_self];rfl
theorem setE_app {α:Type} (os:List α) (a b:α) (ds:List α):(os ++ a::ds).set os.length b=os ++ b::ds:=by
 rw [List.set_append_right _ _ (Nat.le_refl _),Nat.sub_self];rfl
theorem OW.putRawE {ds:List Ob} (h:OW w (os ++ rawO k r::ds) x) (r':Obj):OW w (os ++ rawO k r'::ds) (x.putObj k r'):=by
 have:=h.putRaw (getE_app os _ ds) r'
 rwa [setE_app] at this
theorem OW.rawE {ds:List Ob} (h:OW w (os ++ rawO k r::ds) x):x.heap[k]?=some r:=(h.rawh (getE_app os _ ds)).2
theorem OW.dropE {ds:List Ob} {o:Ob} (h:OW w (os ++ o::ds) x):OW w (os ++ ds) x :=
 h.sub (List.Sublist.append (List.Sublist.refl _) (List.sublist_cons_self _ _))
end
section
variable {α : Type} {P : Program}
def IterOK (P:Program) (g:Nat) (lb:Array Value) (L:List α) (Itr:World→Prop) (Hand:α→Array Value→World→World→Prop):Prop :=
 ∀ (l:Nat) (J Jx:List α→World→Prop) (W:World),
  (∀ pre z,J pre z→Itr z)→(∀ pre y z,J pre y→Below y.heap.size y z→J pre z)→(∀ pre y z,Jx pre y→Below y.heap.size y z→Jx pre z) →
  (∀ pre x W0 vs W1,pre ++ [x] <+: L→J pre W0→Hand x vs W0 W1→YieldAt Fence.wide 9 P l vs W1 fun e z =>
   (e = .returned (.bool true)∧J (pre ++ [x]) z)∨(e = .returned (.bool false)∧Jx (pre ++ [x]) z)) →
  J [] W→Calls P g (#[.func (.yield l) #[] #[]] ++ lb) W fun e z=>(∃ v,e = .returned v)∧(J L z∨∃ pre,pre <+: L∧Jx pre z)
def mkRec (fn:FuncId) (tmps:Array Value) (ps:Array Tmp) (assign body:Code) (D:Nat) (st:LoopState) (pe:Option Code):Loop :=
 { state:=st,pending:=pe,fn,tmps,params:=ps,assign,body,defers:=D }
def rPost (w:World) (p:List Ob) (I:List α→List Ob→Prop) (Ix:Code→List α→List Ob→Prop) (xs:List α):Exit→Act→World→Prop
 | .normal,_,z=>∃ os,I xs os∧OW w (os ++ p) z
 | .ret,_,z=>∃ os,Ix .ret xs os∧OW w (os ++ p) z
 | .exit id,_,z=>∃ os,Ix (.exit id) xs os∧OW w (os ++ p) z
 | .goto t,_,z=>∃ os,Ix (.goto t) xs os∧OW w (os ++ p) z
 | .panic _,_,_=>False
 | .outgrown,_,_=>False
def setP (tmps:Array Value) (ps:Array Tmp) (vs:Array Value):Array Value:=(ps.zip vs).foldl (fun t (p,v)=>t.setIfInBounds p v) tmps
theorem setP1 (tmps:Array Value) (p:Tmp) (v:Value):setP tmps #[p] #[v]=tmps.setIfInBounds p v:=by simp [setP]
def RoundOK (P:Program) (w:World) (l:Nat) (assign body:Code) (I:List α→List Ob→Prop) (Ix:Code→List α→List Ob→Prop) (tmps:Array Value) (p1 p2:List Ob) (pre:List α) (x:α) (W1:World) (vs:Array Value) (ps:Array Tmp):Prop :=
 assign.wpIn (FW (some l)) 9 P (Exit.then (fun a1 z=>∃ os2,OW w (os2 ++ p1) z∧∀ z2,OW w (os2 ++ p2) z2→body.wpIn (FW (some l)) 9 P (rPost w p2 I Ix (pre ++ [x])) a1 z2) fun _ _ _=>False)
  { tmps:=setP tmps ps vs,defers:=[] } W1
theorem range_core {F:Fence} {n:Nat} {w W1:World} {g l:Nat} {lb:Array Value} {L:List α} {Itr:World→Prop} {Hand:α→Array Value→World→World→Prop} {ps:Array Tmp} {assign body:Code} {Q:Exit→Act→World→Prop} {a':Act} {fn:FuncId} {tmps:Array Value} {D:Nat} {ds:List Ob}
  (hit:IterOK P g lb L Itr Hand) (hps:∀ x vs y z,Hand x vs y z→vs.size=ps.size∧Below y.heap.size y z) (I:List α→List Ob→Prop) (Ix:Code→List α→List Ob→Prop)
  (hI:∀ pre os es z,I pre os→OW w (os ++ es) z→Itr z) {os0:List Ob} (h0:I [] os0) (hx:OW w (os0 ++ rawO l (.loop (mkRec fn tmps ps assign body D .ready none))::ds) W1)
  (hround:∀ pre x vs W0 W1 os,pre ++ [x] <+: L→I pre os→OW w (os ++ rawO l (.loop (mkRec fn tmps ps assign body D .ready none))::ds) W0→Hand x vs W0 W1 →
   RoundOK P w l assign body I Ix tmps (rawO l (.loop (mkRec fn tmps ps assign body D .ready none))::ds) (rawO l (.loop (mkRec fn tmps ps assign body D .busy none))::ds) pre x W1 vs ps)
  (hdone:∀ os z,I L os→OW w (os ++ ds) z→Q .normal a' z) (hstop:∀ c pre os z,pre <+: L→Ix c pre os→OW w (os ++ ds) z→c.wpIn F n P Q a' z) :
  Calls P g (#[.func (.yield l) #[] #[]] ++ lb) W1 (rangePost F n P l Q a'):=by
 refine (hit l (fun pre z=>∃ os,I pre os∧OW w (os ++ rawO l (.loop (mkRec fn tmps ps assign body D .ready none))::ds) z)
  (fun pre z=>∃ c os,Ix c pre os∧OW w (os ++ rawO l (.loop (mkRec fn tmps ps assign body D .done (some c)))::ds) z) W1
  (fun pre z ⟨os,h1,h2⟩=>hI pre os _ z h1 h2) (fun pre y z ⟨os,h1,h2⟩ hb=>⟨os,h1,h2.later hb⟩) (fun pre y z ⟨c,os,h1,h2⟩ hb=>⟨c,os,h1,h2.later hb⟩) ?_ ⟨os0,h0,hx⟩).mono ?_
 ·rintro pre x W0 vs Wb hpre ⟨os,hi,ho⟩ hh
  have hr:=hround pre x vs W0 Wb os hpre hi ho hh
  have hrec:Wb.heap[l]?=some (.loop (mkRec fn tmps ps assign body D .ready none)):=(ho.later (hps x vs _ _ hh).2).rawE
  exact ⟨fn,_,assign,body,run_yield hrec (by rw [(hps x vs _ _ hh).1];rfl),roundIn_of_wpIn (F:=Fence.wide) trivial (wpIn_mono hr fun e a1 z hz=>by
   cases e with
   | normal =>
    obtain ⟨os2,h1,h2⟩:=hz
    refine ⟨_,run_beginRound h1.rawE rfl,?_⟩
    refine wpIn_mono (h2 _ (h1.putRawE _)) fun e a3 z3 h3=>?_
    cases e with
    | normal =>
     obtain ⟨os3,h4,h5⟩:=h3
     exact ⟨_,_,run_endRound none h5.rawE,.inl ⟨rfl,os3,h4,h5.putRawE _⟩⟩
    | ret =>
     obtain ⟨os3,h4,h5⟩:=h3
     exact ⟨_,_,run_endRound (some .ret) h5.rawE,.inr ⟨rfl,.ret,os3,h4,h5.putRawE _⟩⟩
    | exit id =>
     obtain ⟨os3,h4,h5⟩:=h3
     exact ⟨_,_,run_endRound (some (.exit id)) h5.rawE,.inr ⟨rfl,.exit id,os3,h4,h5.putRawE _⟩⟩
    | goto t =>
     obtain ⟨os3,h4,h5⟩:=h3
     exact ⟨_,_,run_endRound (some (.goto t)) h5.rawE,.inr ⟨rfl,.goto t,os3,h4,h5.putRawE _⟩⟩
    | panic ch=>exact h3.elim
    | outgrown=>exact h3.elim
   | ret=>exact hz.elim
   | exit id=>exact hz.elim
   | goto t=>exact hz.elim
   | panic ch=>exact hz.elim
   | outgrown=>exact hz.elim)⟩
 ·rintro e z ⟨⟨v,rfl⟩,⟨os,h1,h2⟩ | ⟨pre,hp,c,os,h1,h2⟩⟩
  ·exact ⟨none,_,run_endLoop h2.rawE (fun e=>nomatch e),hdone os _ h1 (h2.putRawE _).dropE⟩
  ·exact ⟨some c,_,run_endLoop h2.rawE (fun e=>nomatch e),hstop c pre os _ hp h1 (h2.putRawE _).dropE⟩
def markD (D:Nat):Deferred:={ target := .collected D,args:=#[] }
def dfrO (D:Nat):Ob:=rawO D (.deferred (some []))
theorem wp_range {w x:World} {g:Operand} {gf:Nat} {lb:Array Value} {L:List α} {Itr:World→Prop} {Hand:α→Array Value→World→World→Prop} {ps:Array Tmp} {assign body:Code} {Q:Exit→Act→World→Prop} {a:Act}
  (hg:a.eval g = .func (.func gf) #[] lb) (eg:∀ args w,(callFunc gf args).run P w = .ok (.enter gf args) w)
  (hit:IterOK P gf lb L Itr Hand) (hps:∀ x vs y z,Hand x vs y z→vs.size=ps.size∧Below y.heap.size y z) (I:List α→List Ob→Prop) (Ix:Code→List α→List Ob→Prop)
  (hI:∀ pre os es z,I pre os→OW w (os ++ es) z→Itr z) {os0:List Ob} (h0:I [] os0) (hx:OW w os0 x)
  (hround:∀ (l:Nat) (p1 p2:List Ob) pre xx vs W0 W1 os,(∃ r ds,p2=rawO l (.loop r)::ds)→pre ++ [xx] <+: L→I pre os→OW w (os ++ p1) W0→Hand xx vs W0 W1→RoundOK P w l assign body I Ix a.tmps p1 p2 pre xx W1 vs ps)
  (hdone:∀ D os z,I L os→OW w (os ++ [dfrO D]) z→Q .normal { a with defers:=markD D::a.defers } z)
  (hstop:∀ D c pre os z,pre <+: L→Ix c pre os→OW w (os ++ [dfrO D]) z→c.wp P Q { a with defers:=markD D::a.defers } z):(Code.rangeFunc g ps assign body).wp P Q a x:=by
 refine (wpIn_wide (n:=0)).1 (wpIn_rangeFunc fun fn _=>?_)
 obtain ⟨W1,hW1⟩:∃ z,z=(x.alloc (.deferred (some []))).alloc (.loop (mkRec fn a.tmps ps assign body x.heap.size .ready none)):=⟨_,rfl⟩
 have h2:OW w (os0 ++ rawO (x.heap.size + 1) (.loop (mkRec fn a.tmps ps assign body x.heap.size .ready none))::[dfrO x.heap.size]) W1:=by
  rw [hW1]
  have h3:=(hx.app (OW.raw1 x (.deferred (some [])))).app (OW.raw1 _ (.loop (mkRec fn a.tmps ps assign body x.heap.size .ready none)))
  rw [World.size_alloc] at h3
  refine h3.perm ?_
  rw [List.append_assoc]
  exact List.Perm.append_left _ (List.Perm.swap _ _ _)
 refine ⟨x.heap.size + 1,[markD x.heap.size],W1,{ target := .fn (.func gf) lb,args:=#[.func (.yield (x.heap.size + 1)) #[] #[]] },W1,gf,#[.func (.yield (x.heap.size + 1)) #[] #[]] ++ lb,W1,by rw [hW1];exact run_enterLoop_outer _ _ _ _ _,?_,fun _ _=>trivial,?_,(fun e=>nomatch e),callsIn_wide.2 ?_⟩
 ·simp only [resolve,hg]
  simp [go_sem]
 ·simp [invoke,go_sem,eg]
 ·exact range_core hit hps I Ix hI h0 h2 (fun pre xx vs W0 W1 os h4 h5 h6 h7=>hround _ _ _ pre xx vs W0 W1 os ⟨_,_,rfl⟩ h4 h5 h6 h7) (fun os z h4 h5=>hdone _ os z h4 h5) fun c pre os z h4 h5 h6=>wpIn_wide.2 (hstop _ c pre os z h4 h5 h6)
def bodyQ (P:Program) (fn:Func) (R:Ending→World→Prop):Exit→Act→World→Prop
 | .normal,a,w | .ret,a,w=>LeavesInM Fence.wide 0 P fn a.tmps R a.defers .returning w
 | _,_,_=>False
theorem calls_marks {f:FuncId} {fn:Func} {c:Code} {args:Array Value} {w:World} {R:Ending→World→Prop} (hf:P.funcs[f]?=some fn) (hb:fn.body=some c)
  (h:c.wp P (bodyQ P fn R) { tmps:=args ++ Array.replicate (fn.ntmps - args.size) undef,defers:=[] } w):Calls P f args w R :=
 (callsIn_wide (n:=0)).1 (callsIn_of_wp_marks hf hb trivial (wpIn_wide.2 (wp_mono h fun e a w hq=>by
  cases e with
  | normal=>exact hq
  | ret=>exact hq
  | exit id=>exact hq.elim
  | goto l=>exact hq.elim
  | panic ch=>exact hq.elim
  | outgrown=>exact hq.elim)) rfl)
theorem leaves_mark {fn:Func} {tmps:Array Value} {R:Ending→World→Prop} {D:Nat} {ds:List Deferred} {z:World} {w:World} {os es:List Ob} (h:OW w (os ++ dfrO D::es) z)
  (hk:∀ z',OW w (os ++ es) z'→LeavesInM Fence.wide 0 P fn tmps R ds .returning z'):LeavesInM Fence.wide 0 P fn tmps R (markD D::ds) .returning z :=
 ⟨(fun e=>nomatch e),.inl ⟨D,_,rfl,run_takeDeferred h.rawE,hk _ (h.putRawE _).dropE⟩⟩
theorem results_cell1 {fn:Func} {p:Tmp} {ty:TypeId} (h:fn.results=#[.cell p ty]) (tmps:Array Value) (w:World) (g:Nat) (v:Value) (hp:tmps.getD p undef = .pointer (some ⟨g,0,none⟩)) (hc:w.cell? ⟨g,0,none⟩=some v) (ha:∀ w,(isAgg ty).run P w = .ok false w):(results fn tmps).run P w = .ok v w:=by
 have hp':tmps[p]?.getD undef = .pointer (some ⟨g,0,none⟩):=by simpa using hp
 simp [results,h,hp',asAddr,loadVar,Sem.run_bind,ha w]
 simp [go_sem,hc]
theorem leaves0 {fn:Func} {tmps:Array Value} {R:Ending→World→Prop} {v:Value} {z:World} (h:(results fn tmps).run P z = .ok v z) (hR:R (.returned v) z):LeavesInM Fence.wide 0 P fn tmps R [] .returning z:=⟨v,h,hR⟩
theorem RBox.cell' {w x1 z:World} {g:Nat} {u:Value} (h:RBox w x1 g u) (hz:Below x1.heap.size x1 z):z.cell? ⟨g,0,none⟩=some u:=(hz.cell (p:=⟨g,0,none⟩) h.hi).trans h.cell
theorem RBox.up' {w x1 z:World} {g:Nat} {u:Value} (h:RBox w x1 g u) (hz:Below x1.heap.size x1 z) (v:Value):Below w.heap.size w (z.setCell ⟨g,0,none⟩ v) :=
 (h.up.trans (hz.mono h.up.size)).setCell (p:=⟨g,0,none⟩) h.lo v
theorem RBox.got {w x1 z:World} {g:Nat} {u:Value} (h:RBox w x1 g u) (hz:Below x1.heap.size x1 z) (v:Value):(z.setCell ⟨g,0,none⟩ v).cell? ⟨g,0,none⟩=some v:=World.cell?_setCell_same _ _ _ (h.cell' hz)
theorem RBox.mark {w x1 z:World} {g D:Nat} {u:Value} {os es:List Ob} (h:RBox w x1 g u) (hz:OW x1 (os ++ dfrO D::es) z) (v:Value) {fn:Func} {tmps:Array Value} {R:Ending→World→Prop} {p:Tmp} {ty:TypeId} (hr:fn.results=#[.cell p ty]) (hp:tmps.getD p undef = .pointer (some ⟨g,0,none⟩)) (ha:∀ w,(isAgg ty).run P w = .ok false w)
  (hR:∀ z',Below w.heap.size w z'→R (.returned v) z'):LeavesInM Fence.wide 0 P fn tmps R [markD D] .returning (z.setCell ⟨g,0,none⟩ v):=by
 obtain ⟨hD,hd⟩:=hz.rawh (getE_app os _ es)
 have hne:g ≠ D:=by have:=h.hi;omega
 have hd':(z.setCell ⟨g,0,none⟩ v).heap[D]?=some (.deferred (some [])):=(Below.heap_setCell _ _ _ _ (fun e=>hne e.symm)).trans hd
 refine ⟨(fun e=>nomatch e),.inl ⟨D,_,rfl,run_takeDeferred hd',leaves0 (results_cell1 hr _ _ g v hp ?_ ha) (hR _ ?_)⟩⟩
 ·exact (World.cell?_of_block (World.putObj_heap_other hne)).trans (h.got hz.up v)
 ·exact (h.up' hz.up v).trans ((chg_putObj _ D _).below (h.up' hz.up v).size fun k _ e=>by
   subst e;have:=h.lo;have:=h.hi;omega)
end
end Go.Proofs.YtfdbcfaeiglbeaaGreatDoor
namespace Go.Proofs.YtfdbcfaeiglbeaaGreatDoor
open Go.RowKit
section
variable {w x : World} {os ks : List Ob} {g c N i : Nat} {m : UInt8}
theorem OW.marked {A:Option Addr} {n cap:Nat} (h:OW w os x) (hm:Marked os A n cap m):Sl x A n cap (List.replicate n m):=by
 rcases hm with ⟨rfl,rfl,rfl⟩ | ⟨g,c,N,rfl,h1,h2,h3,h4⟩
 ·exact Sl.none _
 ·obtain ⟨r,h5,h6,h7⟩:=h.fill h4
  have hc:c≤maxLen:=by obtain ⟨_,_,_,_,_,h8,_⟩:=h7;exact h8
  unfold maxLen at hc
  refine ⟨RB.mk' List.length_replicate fun _=>⟨g,0,rfl,(Array.getElem?_eq_some_iff.1 h6).1,fun j b hj=>?_⟩,h2,by omega,fun e=>nomatch e⟩
  obtain ⟨hjl,rfl⟩:=List.getElem?_eq_some_iff.1 hj
  rw [List.length_replicate] at hjl
  rw [Nat.zero_add,List.getElem_replicate]
  exact h7.cell h6 (by omega)
end
section
variable {P : Program} {Q : Exit → Act → World → Prop} {K : Act → World → Prop} {o : Oper} {a : Act} {w x : World} {os ks : List Ob} {m : UInt8}
end
section
variable {P : Program} {Q : Exit → Act → World → Prop} {F : List Nat} {S : World → Prop} {l : List Oper} {listed : Array Bool} {fuel : Nat} {a : Act} {w : World}
end
end Go.Proofs.YtfdbcfaeiglbeaaGreatDoor
namespace Go.Proofs.YtfdbcfaeiglbeaaGreatDoor
open Go.RowKit
theorem Tryz.kssF:SliceOf Tryz.prog 88 34 1 24:=SliceOf.mk' (z := .slice none 0 0) Tryz.underlying88 (by kernel_rfl) rfl (by decide)
end Go.Proofs.YtfdbcfaeiglbeaaGreatDoor
namespace Go.Proofs.YtfdbcfaeiglbeaaGreatDoor
open Go.RowKit
theorem Fl.read {w x:World} {g:Nat} {osF rest:List Ob} (hF:Fl g osF) (h:OW w (osF ++ rest) x):∃ (LA MA:Option Addr) (q lc mc:Nat),q≤100000000∧x.cell? ⟨g,0,none⟩=some (.slice LA q lc)∧x.cell? ⟨g,1,none⟩=some (.slice MA q mc) ∧
  ∀ i,i < q→∃ (lg mg:Nat) (A:Option Addr) (n cap mm:Nat),LA=some ⟨lg,0,none⟩∧MA=some ⟨mg,0,none⟩∧n≤1000000101∧x.cell? ⟨lg,i,none⟩=some (.slice A n cap)∧x.cell? ⟨mg,i,none⟩=some (.int .u8 (mm:Int))∧∀ k,k < n→∃ b,A=some ⟨b,0,none⟩∧x.cell? ⟨b,k,none⟩=some (.int .u8 (mm:Int)):=by
 obtain ⟨⟨lv,mA,mc,N,vals,ms,ks⟩,rfl,hd⟩:=hF
 obtain ⟨LA,lc,hlv,_⟩:=own_slice (h.row (i:=1) rfl)
 have hlv:lv = .slice LA vals.length lc:=hlv
 subst hlv
 have hl:vals.length=ms.length:=hd.len
 have hq1:50 * vals.length≤N:=hd.few
 have hq2:N≤5000000000:=hd.lim
 have hr:=h.row (i:=1) rfl
 have hm:=h.byt (i:=2) rfl
 refine ⟨LA,mA,vals.length,lc,mc,by omega,h.cell (i:=0) (j:=0) rfl rfl,by have h1:=h.cell (i:=0) (j:=1) rfl rfl;rw [h1,hl],fun i hi=>?_⟩
 obtain ⟨lg,lcap,hv,_⟩:=own_form hr (show 0 < vals.length by omega)
 injection hv with hv _ _
 obtain ⟨mg,mcap,hv2,_⟩:=own_form hm (show 0 < ms.length by omega)
 injection hv2 with hv2 _ _
 obtain ⟨v,hvi⟩:∃ v,vals[i]?=some v:=⟨_,List.getElem?_eq_getElem hi⟩
 obtain ⟨m,hmi⟩:∃ v,ms[i]?=some v:=⟨_,List.getElem?_eq_getElem (by omega)⟩
 obtain ⟨A,n,cap,rfl,hn,hmk⟩:=hd.keep i v m hvi hmi
 subst hv;subst hv2
 have hS:=OW.marked h (A:=A) (n:=n) (cap:=cap) (m:=m) (by
  rcases hmk with hk | ⟨g',c',N',k1,k2,k3,k4,k5⟩
  ·exact .inl hk
  ·exact .inr ⟨g',c',N',k1,k2,k3,k4,List.mem_append_left _ (.tail _ (.tail _ (.tail _ k5)))⟩)
 refine ⟨lg,mg,A,n,cap,m.toNat,rfl,rfl,hn,(World.ownsRow.cellAt hr i (by show i < vals.length * 1;omega)).trans hvi,(World.ownsRow.cellAt hm i (by show i < ms.length * 1;omega)).trans (u8s_at hmi),fun k hk=>?_⟩
 obtain ⟨b,o,rfl,_,hc⟩:=hS.rb.2 (by omega)
 have ho:o=0:=by
  rcases hmk with ⟨h1,_⟩ | ⟨_,_,_,h1,_⟩
  ·cases h1
  ·injection h1 with h1;injection h1
 subst ho
 have:=hc k _ (u8s_at (show (List.replicate n m)[k]?=some m by simp [hk]))
 rw [Nat.zero_add] at this
 exact ⟨b,rfl,this⟩
end Go.Proofs.YtfdbcfaeiglbeaaGreatDoor
namespace Go.Proofs.YtfdbcfaeiglbeaaGreatDoor
open Go.RowKit
def ItrB (g gb:Nat) (A:Option Addr) (c:Nat) (L:List Ent) (z:World):Prop:=z.cell? ⟨gb,0,none⟩=some (.pointer (some ⟨g,0,none⟩))∧z.cell? ⟨g,1,none⟩=some (.slice A L.length c)∧Ens z A L.length L
theorem pre_take {L:List Ent} {k:Nat} {e:Ent} (h:L[k]?=some e):L.take k ++ [e] <+: L:=by
 rw [← take_snoc h];exact List.take_prefix _ _
set_option maxRecDepth 100000 in
set_option maxHeartbeats 4000000 in
theorem all1_iter (g gb:Nat) (A:Option Addr) (c:Nat) (L:List Ent) (hLn:L.length≤1000000000) (hL:∀ e,e ∈ L→e.row.length≤140737488355000∧e.qual.length≤140737488355000∧e.val.length≤140737488355000) :
  IterOK Tryz.prog 152 #[.pointer (some ⟨gb,0,none⟩)] L (ItrB g gb A c L) HandE:=by
 intro l J Jx W hit hJ hJx hY h0
 have HIT:=Lib.hid hit
 have HJ:=Lib.hid hJ
 have HJX:=Lib.hid hJx
 have HY:=Lib.hid hY
 have HL:=Lib.hid hL
 obtain ⟨hb,c1,_⟩:=hit [] W h0
 obtain ⟨n,hn⟩:∃ z,z=L.length:=⟨_,rfl⟩
 rw [← hn] at c1 hLn
 have HN:=Lib.hid hn.symm
 have H0:=Lib.hid h0
 clear hit hJ hJx hY hL hn h0
 refine (callsIn_wide (n:=10)).1 (callsIn_of_wp Tryz.func152 rfl trivial ?_ rfl)
 simp only [Tryz.ntmps152,List.size_toArray,List.length_cons,List.length_nil,Nat.reduceAdd,Nat.reduceSub,Array.replicate_succ,Array.replicate_zero,List.push_toArray,List.append_toArray,List.nil_append,List.cons_append]
 gi_wp2
 gi_loopw [4,10] (fun _ iv wr=>∃ k:Nat,k≤n∧iv = .int .i64 k∧Hid (J (L.take k) wr)) (fun _ iv _=>n - (intOf iv).toNat)
 case atStart=>exact ⟨0,Nat.zero_le _,rfl,H0⟩
 case round =>
  clear H0 hb c1
  obtain ⟨k,hk,rfl,HJK⟩:=hrel
  by_cases hlt:k < n
  case neg =>
   have hdk:decide ((k:Int) < (n:Int))=false:=decide_eq_false (by omega)
   have HE:Hid (J L wr):=Lib.hid (by have h:=HJK.out;rwa [take_all (by rw [HN.out];omega)] at h)
   gi_wp2
   go_end0
   exact ⟨⟨_,rfl⟩,.inl HE.out⟩
  have hdk:decide ((k:Int) < (n:Int))=true:=decide_eq_true (by omega)
  have i0:(0:Int)≤(k:Int):=by omega
  have i1:(k:Int) < (n:Int):=by omega
  obtain ⟨_,_,hens⟩:=HIT.out _ _ HJK.out
  rw [HN.out] at hens
  obtain ⟨b,o,Ar,rc,B,d,D,q,e,rfl,hbl,hke,hrg,hen⟩:=hens.at_ hlt
  have HR:=Lib.hid hrg
  have HKE:=Lib.hid hke
  have HEN:Hid (∀ z,Below wr.heap.size wr z→En z Ar e.row.length rc B e.qual.length d D e.val.length q e):=Lib.hid fun z hz=>hen.later hz
  have HX:=Lib.hid (OW.nil wr)
  have HLE:=Lib.hid (HL.out e (List.mem_of_getElem? hke))
  clear hens hbl hke hrg hen
  gi_wp2_with (first
   | (refine wlIn_one (ro:=none) rfl ?_;refine wpList_load_at rfl 60 (.tmp 12) rfl rfl HR.out ent_row5 ?_;refine wlIn_back ?_)
   | (refine wlIn_one (ro:=none) rfl ?_;refine wl_alloc rfl rfl [.slice none 0 0,.int .i64 0,.slice none 0 0,.int .i64 0,.int .i64 0,.int .i64 0,.slice none 0 0] (.inl (by kernel_rfl)) HX.out ?_;intro ge x1 hz _;have HX1:=Lib.hid hz;clear hz HX;refine wlIn_back ?_)
   | (refine wlIn_one (ro:=none) rfl ?_;refine wl_put rfl (.tmp 4) (.tmp 13) rfl HX1.out 0 rfl rfl [.slice Ar e.row.length rc,.int .i64 e.fam,.slice B e.qual.length d,.int .i64 e.ts,.int .i64 e.seq,.int .i64 e.kind,.slice D e.val.length q] rfl rfl (by kernel_rfl) (by simp [Value.oneCell']) ?_;intro x2 hz _;have HX2:Hid (OW wr [boxO ge [.slice Ar e.row.length rc,.int .i64 e.fam,.slice B e.qual.length d,.int .i64 e.ts,.int .i64 e.seq,.int .i64 e.kind,.slice D e.val.length q]] x2):=Lib.hid hz;clear hz HX1;refine wlIn_back ?_)
   | (refine wlIn_one (ro:=none) rfl ?_;refine wpList_load_row7 rfl 60 (.tmp 4) rfl rfl (HX2.out.range (i:=0) rfl) ent_row5 ?_;refine wlIn_back ?_)
   | (refine ⟨trivial,?_⟩;gi_at_call 153;go_must (refine CallsIn.mono (callsIn_fw (ro:=none) (own_any e Ar _ rc B _ d D _ q _ (HEN.out _ HX2.out.up) HLE.out)) ?_);rintro r x3 hp;obtain ⟨A3,B3,D3,rfl,ca,cb,cd,ho⟩:=hp.own;have hy0:=HY.out (L.take k) e wr _ x3 (pre_take HKE.out) HJK.out ⟨A3,B3,D3,rfl,ca,cb,cd,(HX2.out.app ho).erase 0⟩;obtain ⟨fn,tmps,assign,body,hy,hR⟩:=hy0;clear hp ca cb cd ho HX2))
  have HT:=Lib.hid (take_snoc HKE.out)
  refine hR.mono ?_
  rintro e' W' (⟨rfl,hJ'⟩ | ⟨rfl,hJx'⟩)
  ·rw [← HT.out] at hJ'
   have HJ':=Lib.hid hJ'
   clear hJ' hR hy
   gi_wp2
   go_roundw
   case rel=>exact ⟨k + 1,by omega,by go_num,HJ'⟩
   case measure=>simp [intOf];omega
  ·have HJ':Hid (Jx (L.take k ++ [e]) W'∧L.take k ++ [e] <+: L):=Lib.hid ⟨hJx',pre_take HKE.out⟩
   clear hJx' hR hy
   gi_wp2
   refine bodyPost_ret (results_none rfl _ _ _) rfl ?_
   exact ⟨⟨_,rfl⟩,.inr ⟨_,HJ'.out.2,HJ'.out.1⟩⟩
end Go.Proofs.YtfdbcfaeiglbeaaGreatDoor
namespace Go.Proofs.YtfdbcfaeiglbeaaGreatDoor
open Go.RowKit
theorem Bk5.itr {R g:Nat} {L:List Ent} {os:List Ob} (h:Bk5 R L g os) {w0 z0:World} {r0:List Ob} (h0:OW w0 (os ++ r0) z0):∃ A c,∀ w z rest,OW w (os ++ rest) z→z.cell? ⟨g,1,none⟩=some (.slice A L.length c)∧Ens z A L.length L:=by
 obtain ⟨lv,kv,zs,rfl,rfl,hz⟩:=h
 obtain ⟨A,c,rfl,_⟩:=blk_ens h0
 have hl:(entsZ zs).length=zs.length:=by unfold entsZ;rw [List.length_map]
 refine ⟨A,c,fun w z rest hw=>?_⟩
 obtain ⟨A',c',hv,he⟩:=blk_ens hw
 injection hv with hA _ hc
 subst hA;subst hc
 rw [hl]
 exact ⟨hw.cell (i:=0) (j:=1) rfl rfl,he⟩
theorem all_new (g:Nat) (x:World):Calls Tryz.prog 86 #[.pointer (some ⟨g,0,none⟩)] x fun r z=>∃ b,r = .returned (.func (.func 152) #[] #[.pointer (some ⟨b,0,none⟩)])∧OW x [boxO b [.pointer (some ⟨g,0,none⟩)]] z:=by
 have HX:=Lib.hid (OW.nil x)
 go_enter Tryz.func86,Tryz.ntmps86
 go_wp2_with (refine wl_box rfl (.tmp 0) rfl [.pointer (some ⟨g,0,none⟩)] rfl HX.out ?_;intro b x1 hz _;have HX1:Hid (OW x [boxO b [.pointer (some ⟨g,0,none⟩)]] x1):=Lib.hid hz;clear hz HX)
 go_ret
 exact ⟨b,rfl,HX1.out⟩
theorem pre_at {α:Type} {L pre:List α} {e:α} (h:pre ++ [e] <+: L):L[pre.length]?=some e:=by
 obtain ⟨t,rfl⟩:=h
 rw [List.append_assoc,List.getElem?_append_right (Nat.le_refl _),Nat.sub_self];rfl
end Go.Proofs.YtfdbcfaeiglbeaaGreatDoor
namespace Go.Proofs.YtfdbcfaeiglbeaaGreatDoor
open Go.RowKit
theorem wl_skipR {P:Program} {ops:Array Oper} {Q:Exit→Act→World→Prop} {a:Act} {w:World} {rest:List Oper} {o:Oper} (hw:Region.wanted o (yielded ops a.tmps)=false) (h:wpList P ops Q rest (a.put o.dst undef) w):wpList P ops Q (o::rest) a w :=
 wpList_step fun K hK=>by rw [if_neg (by rw [hw];exact Bool.noConfusion)];exact hK _ _ h
end Go.Proofs.YtfdbcfaeiglbeaaGreatDoor
namespace Go.Proofs.YtfdbcfaeiglbeaaGreatDoor
open Go.RowKit
def rightK (fl:List UInt8) (rows:List (List UInt8)) (k:Nat):Bool:=decide (buildE ((k + 1:Nat):Int) rows=0∧buildB ((k + 1:Nat):Int) rows=fl)
theorem right_eq (r:RunR) (rows:List (List UInt8)):rightR r rows=(decide (r.filt=[]) || (List.range 20).any (rightK r.filt rows)):=rfl
theorem rightK_no {fl:List UInt8} {rows:List (List UInt8)} {k:Nat} (h:(List.range k).any (rightK fl rows)=false) (h2:rightK fl rows k=false):(List.range (k + 1)).any (rightK fl rows)=false:=by
 rw [List.range_succ,List.any_append,h];simp [h2]
theorem rightK_yes {fl:List UInt8} {rows:List (List UInt8)} {k:Nat} (hk:k < 20) (h2:rightK fl rows k=true):(List.range 20).any (rightK fl rows)=true :=
 List.any_eq_true.2 ⟨k,List.mem_range.2 hk,h2⟩
theorem BuildPost.yes {bits:Int} {ks:List (List UInt8)} {w z:World} {e:Ending} (h:BuildPost bits ks w e z) (h0:buildE bits ks=0):∃ g,e = .returned (.tuple #[.slice (some ⟨g,0,none⟩) (buildB bits ks).length (buildB bits ks).length,.int .i64 0])∧z.ownsRow w.heap.size 5 1 (.slice (some ⟨g,0,none⟩) (buildB bits ks).length (buildB bits ks).length) (buildB bits ks).length (u8s (buildB bits ks))∧Below w.heap.size w z:=by
 rcases h with ⟨_,h⟩ | ⟨h,_⟩
 ·exact h
 ·exact absurd h0 h
theorem BuildPost.no {bits:Int} {ks:List (List UInt8)} {w z:World} {e:Ending} (h:BuildPost bits ks w e z) (h0:buildE bits ks ≠ 0):e = .returned (.tuple #[.slice none 0 0,.int .i64 (buildE bits ks)])∧Below w.heap.size w z:=by
 rcases h with ⟨h,_⟩ | ⟨_,h⟩
 ·exact absurd h h0
 ·exact h
set_option maxRecDepth 1000000 in
set_option maxHeartbeats 4000000 in
theorem right_any (q:RunRec) (w:World) (h:RunAt q w) (rows:List (List UInt8)) (A:Option Addr) (n c:Nat) (hr:RBs w w.heap.size A n rows) (hn:n≤9223372036854775807) :
  Calls Tryz.prog 88 #[.pointer (some ⟨q.g,0,none⟩),.slice A n c] w fun e z=>e = .returned (.bool (rightR q.r rows))∧Below w.heap.size w z:=by
 have HC10:Hid (∀ z,Below w.heap.size w z→z.cell? ⟨q.g,10,none⟩=some (.slice (some ⟨q.gb,q.ff,none⟩) q.r.filt.length (q.cb - q.ff))):=Lib.hid fun z hz=>(h.later hz).cell rfl
 have HSF:Hid (∀ z,Below w.heap.size w z→Sl z (some ⟨q.gb,q.ff,none⟩) q.r.filt.length (q.cb - q.ff) q.r.filt):=Lib.hid fun z hz=>(h.later hz).filtS
 have HR:Hid (∀ z,Below w.heap.size w z→RBs z z.heap.size A n rows):=Lib.hid fun z hz=>hr.later hz
 have HRR:=Lib.hid (right_eq q.r rows)
 obtain ⟨fl,hfl⟩:∃ x,x=q.r.filt:=⟨_,rfl⟩
 rw [← hfl] at HC10 HSF HRR
 clear h hr hfl
 go_enter Tryz.func88,Tryz.ntmps88
 by_cases h0:fl=[]
 case pos =>
  have d1:((fl.length:Int) == 0)=true:=by rw [h0];rfl
  have d2:(fl.length == 0)=true:=by rw [h0];rfl
  have HT:Hid (rightR q.r rows=true):=Lib.hid (by rw [HRR.out,h0];rfl)
  clear h0
  go_wp2_with (refine wpList_load_cell rfl 34 (.tmp 10) rfl rfl (HC10.out _ (Below.refl _ _)) Tryz.isAgg34 ?_)
  go_ret
  exact ⟨congrArg (fun b:Bool=>Ending.returned (.bool b)) HT.out.symm,Below.refl _ _⟩
 have hl0:fl.length ≠ 0:=fun hh=>h0 (List.eq_nil_of_length_eq_zero hh)
 have d1:((fl.length:Int) == 0)=false:=beq_eq_false_iff_ne.2 (by omega)
 have d2:(fl.length == 0)=false:=beq_eq_false_iff_ne.2 hl0
 have HRA:Hid (rightR q.r rows=(List.range 20).any (rightK fl rows)):=Lib.hid (by rw [HRR.out,decide_eq_false h0];rfl)
 clear h0 hl0
 go_wp2_with (refine wpList_load_cell rfl 34 (.tmp 10) rfl rfl (HC10.out _ (Below.refl _ _)) Tryz.isAgg34 ?_)
 go_loopw [5,6,7] (fun bv _ _ wr=>∃ k:Nat,k≤20∧bv = .int .i64 ((k:Int) + 1)∧Hid ((List.range k).any (rightK fl rows)=false)∧Hid (Below w.heap.size w wr)) (fun bv _ _ _=>21 - (intOf bv).toNat)
 case atStart=>exact ⟨0,by omega,rfl,Lib.hid rfl,Lib.hid (Below.refl _ _)⟩
 case round =>
  obtain ⟨k,hk,rfl,HNO,HUP⟩:=hrel
  by_cases hlt:k < 20
  case neg =>
   have hd:decide ((k:Int) + 1≤20)=false:=decide_eq_false (by omega)
   have hd2:decide (k + 1≤20)=false:=decide_eq_false (by omega)
   have HF:Hid (rightR q.r rows=false):=Lib.hid (by rw [HRA.out,← show k=20 by omega];exact HNO.out)
   go_wp2_with fail
   go_ret
   exact ⟨congrArg (fun b:Bool=>Ending.returned (.bool b)) HF.out.symm,HUP.out⟩
  have hd:decide ((k:Int) + 1≤20)=true:=decide_eq_true (by omega)
  obtain ⟨ev,hev⟩:∃ x,buildE ((k:Int) + 1) rows=x:=⟨_,rfl⟩
  have HEV:=Lib.hid hev
  by_cases hE:ev=0
  case neg =>
   have HE0:Hid (buildE ((k:Int) + 1) rows ≠ 0):=Lib.hid (by rw [hev];exact hE)
   have e1:((ev:Int) == 0)=false:=beq_eq_false_iff_ne.2 (by omega)
   have HKN:Hid (rightK fl rows k=false):=Lib.hid (decide_eq_false fun hh=>HE0.out hh.1)
   have e2:decide (ev=0)=false:=decide_eq_false hE
   clear hev
   go_wp2_with (first
    | (go_at_call 114;go_must (refine (bf_build_any ((k:Int) + 1) rows A n c _ hn (HR.out _ HUP.out)).mono ?_);rintro e x1 hp;obtain ⟨rfl,hb⟩:=hp.no HE0.out;rw [HEV.out];have HU1:Hid (Below w.heap.size w x1):=Lib.hid (HUP.out.trans (hb.mono HUP.out.size));clear hp hb)
    | ((guard_target =~ wpList _ _ _ ({ dst:=_,op:=_,type:=_,pos:=_,after:=_,guard:=some _ }::_) _ _);(with_reducible refine wl_skipR ?hw ?_);(case hw=>kernel_rfl)))
   go_roundw
   case rel=>exact ⟨k + 1,by omega,by go_num,Lib.hid (rightK_no HNO.out HKN.out),HU1⟩
   case measure=>simp [intOf];omega
  subst hE
  have HE0:Hid (buildE ((k:Int) + 1) rows=0):=Lib.hid hev
  obtain ⟨B,hB⟩:∃ x,buildB ((k:Int) + 1) rows=x:=⟨_,rfl⟩
  have HB:=Lib.hid hB
  obtain ⟨bq,hbq⟩:∃ x,(B == fl)=x:=⟨_,rfl⟩
  have HBQ:=Lib.hid hbq
  have HKB:Hid (rightK fl rows k=bq):=Lib.hid (by
   have h1:buildE ((k + 1:Nat):Int) rows=0:=HE0.out
   have h2:buildB ((k + 1:Nat):Int) rows=B:=hB
   unfold rightK
   rw [h1,h2,← hbq]
   by_cases hh:B=fl <;> simp [hh])
  clear hev hB hbq
  go_upto_region 7 with (first
   | (go_at_call 114;go_must (refine (bf_build_any ((k:Int) + 1) rows A n c _ hn (HR.out _ HUP.out)).mono ?_);rintro e x1 hp;obtain ⟨gf,rfl,ho,hb⟩:=hp.yes HE0.out;rw [HB.out] at ho ⊢;have HX1:Hid (OW wr [bytO 5 (some ⟨gf,0,none⟩,B.length,B)] x1):=Lib.hid (OW.byt1 hb ho);have HU1:Hid (Below w.heap.size w x1):=Lib.hid (HUP.out.trans (hb.mono HUP.out.size));clear hp ho hb))
  cases bq with
  | true =>
   have HT:Hid (rightR q.r rows=true):=Lib.hid (by rw [HRA.out];exact rightK_yes hlt HKB.out)
   go_wp2_with (first
    | (refine wpList_load_cell rfl 34 (.tmp 30) rfl rfl (HC10.out _ HU1.out) Tryz.isAgg34 ?_)
    | (go_at_call 87;go_must (refine (equal_any B fl (some ⟨gf,0,none⟩) (some ⟨q.gb,q.ff,none⟩) B.length B.length fl.length (q.cb - q.ff) _ (HX1.out.sl (i:=0) rfl rfl).rb (HSF.out _ HU1.out).rb).mono ?_);rw [HBQ.out];rintro e y2 ⟨rfl,rfl⟩))
   go_ret
   exact ⟨congrArg (fun b:Bool=>Ending.returned (.bool b)) HT.out.symm,HU1.out⟩
  | false =>
   go_wp2_with (first
    | (refine wpList_load_cell rfl 34 (.tmp 30) rfl rfl (HC10.out _ HU1.out) Tryz.isAgg34 ?_)
    | (go_at_call 87;go_must (refine (equal_any B fl (some ⟨gf,0,none⟩) (some ⟨q.gb,q.ff,none⟩) B.length B.length fl.length (q.cb - q.ff) _ (HX1.out.sl (i:=0) rfl rfl).rb (HSF.out _ HU1.out).rb).mono ?_);rw [HBQ.out];rintro e y2 ⟨rfl,rfl⟩))
   go_roundw
   case rel=>exact ⟨k + 1,by omega,by go_num,Lib.hid (rightK_no HNO.out HKB.out),HU1⟩
   case measure=>simp [intOf];omega
end Go.Proofs.YtfdbcfaeiglbeaaGreatDoor
