/-
 Kit22, Kit23, Kit30, Kit31, Kit32, Kit33, Kit34, Kit40, Kit41, BloomW1, Kit42, Kit43, Kit44, Kit50, Law, Law2, Law3, Law4.
-/
import Derived.Test.YtfdbcfaeiglbeaaGreatDoorRZ2
import Derived.Deep.DeepCutAuto
import Derived.Deep.Fields
import Derived.Deep.Slices
import Derived.Defers
import Derived.Great.BuildSlice
import Derived.Lib.SmallJoins
import Derived.LoopIn
import Derived.OwnWalkIn
import Derived.ProofKit
import Derived.RangeFuncBound
import Derived.RangeFuncCalls
import Derived.RangeFuncLeaves
import Derived.RangeFuncNested
import Derived.Shelf.Abstract
import Derived.SizedLaws
import Derived.TacticsInMore
import Derived.Test.YtfdbcfaeiglbeaaGreatDoorRows
namespace Go.Proofs.YtfdbcfaeiglbeaaGreatDoor
open Go.RowKit
section
variable {P : Program} {Q : Exit → Act → World → Prop} {T : TypeId} {w : World} {bs : List Bx1} {rs : RowL}
variable {p : Parts} {bx : Nat → Bool} {n m : Nat} {av : Nat → Value} {Pst : Nat → Value → RowL → Prop} {l : List Oper} {f0 : Act} {o : Oper} {j : Nat}
theorem St.cut {bs':List Bx1} {x:World} (h:St T w (bs ++ bs') rs x):St T w bs rs x :=
 ⟨h.up,fun i g cs hb=>h.box i g cs (by rw [List.getElem?_append_left (List.getElem?_eq_some_iff.1 hb).1];exact hb),fun i j g cs g' ds h1 h2=>h.ne i j g cs g' ds (by rw [List.getElem?_append_left (List.getElem?_eq_some_iff.1 h1).1];exact h1) (by rw [List.getElem?_append_left (List.getElem?_eq_some_iff.1 h2).1];exact h2),h.rows,fun i j g cs r a hb=>h.off i j g cs r a (by rw [List.getElem?_append_left (List.getElem?_eq_some_iff.1 hb).1];exact hb)⟩
theorem wpList_load_cell {ops:Array Oper} {rest:List Oper} {o:Oper} {a:Act} {W:World} (hgd:Region.wanted o (yielded ops a.tmps)=true) (ty:TypeId) (x:Operand) (ho:o.op = .load ty x) {g k:Nat} {v:Value} (hx:a.eval x = .pointer (some ⟨g,k,none⟩)) (hr:W.cell? ⟨g,k,none⟩=some v) (ha:∀ w,(isAgg ty).run P w = .ok false w)
  (hK:wpList P ops Q rest (a.put o.dst v) W):wpList P ops Q (o::rest) a W:=by
 refine BigFrame.wpList_want hgd fun _ hk=>?_
 have hrun:(execOp a.eval o).run P W = .ok (.value v) W:=by
  unfold execOp
  simp only [ho,hx,Instr.loadAt,Instr.sureAddr,loadVar,Sem.run_bind,Sem.run_pure,Result.andThen_ok,ha W,Bool.false_eq_true,if_false]
  simp [go_sem,hr]
 unfold Oper.wp
 rw [hrun,Oper.upon_value]
 exact hk _ _ hK
end
section
variable {P : Program} {Q : Exit → Act → World → Prop} {S : World → Prop} {l : List Oper} {fuel : Nat} {listed : Array Bool} {a : Act} {w : World} {i : Nat} {o : Oper} {v : Value}
theorem yi_rowO {ty:TypeId} {x:Operand} (hw:Region.wanted o (yielded l.toArray a.tmps)=true) (ho:o.op = .load ty x) {g k:Nat} {cs:List Value} (hx:a.eval x = .pointer (some ⟨g,k,none⟩)) (hr:∀ w,S w→w.rangeAt g k cs) (ht:RowTy P ty cs.length) :
  YieldsIf P l.toArray S o (.agg cs.toArray) a:=by
 obtain ⟨⟨d,hu,hd⟩,hi⟩:=ht
 refine .inl ⟨hw,fun w hS=>?_⟩
 unfold execOp
 simp only [ho,hx,Instr.loadAt,Instr.sureAddr,Sem.run_bind,Sem.run_pure,Result.andThen_ok,run_loadVar_mid w g k ty cs d (hr w hS) hu hd hi]
end
section
variable {T : TypeId} {w x : World} {bs bs' : List Bx1} {rs rs' : RowL}
end
section
variable {P : Program} {Q : Exit → Act → World → Prop} {T : TypeId} {w : World} {bs : List Bx1} {rs : RowL} {p : Parts} {bx : Nat → Bool} {n : Nat} {av : Nat → Value} {Pst : Nat → Value → RowL → Prop} {l : List Oper} {f0 : Act} {o : Oper} {j : Nat}
end
section
variable {p : Parts} {n : Nat} {av : Value} {Pst : Value → RowL → Prop} {j : Nat} {D : Nat → Bool} {v : Nat → Value} {b : Bx1} {R : RowL}
end
structure Ob where
  bx:Bool
  ty:TypeId
  sz:Nat
  v:Value
  n:Nat
  cs:List Value
  raw:Option (Obj→Prop)
def boxO (g:Nat) (cs:List Value):Ob:=⟨true,0,0,.pointer (some ⟨g,0,none⟩),0,cs,none⟩
def rowO (T:TypeId) (sz:Nat) (v:Value) (n:Nat) (cs:List Value):Ob:=⟨false,T,sz,v,n,cs,none⟩
def bytO (T:TypeId) (r:Option Addr×Nat×List UInt8):Ob:=⟨false,T,1,.slice r.1 r.2.2.length r.2.1,r.2.2.length,u8s r.2.2,none⟩
def nilO:Ob:=⟨false,0,1,.slice none 0 0,0,[],none⟩
def phiO (k:Nat) (φ:Obj→Prop):Ob:=⟨true,0,0,.pointer (some ⟨k,0,none⟩),0,[],some φ⟩
def rawO (k:Nat) (r:Obj):Ob:=phiO k fun o=>o=r
def vBlock:Value→Option Nat
 | .pointer (some a)=>some a.block
 | .slice (some a) _ _=>some a.block
 | _=>none
def Ob.blk (o:Ob):Option Nat:=vBlock o.v
def Ob.at0 (B:Nat) (x:World) (o:Ob):Prop :=
 (o.bx=true→∃ g,o.v = .pointer (some ⟨g,0,none⟩)∧B≤g∧g < x.heap.size∧x.rangeAt g 0 o.cs∧∀ j,x.frozen? ⟨g,j,none⟩=false) ∧
 (o.bx=false→x.ownsRow B o.ty o.sz o.v o.n o.cs)
def Ob.at_ (B:Nat) (x:World) (o:Ob):Prop:=match o.raw with
 | some φ=>∃ k r,o.v = .pointer (some ⟨k,0,none⟩)∧B≤k∧x.heap[k]?=some r∧φ r
 | none=>o.at0 B x
def Ap (o p:Ob):Prop:=∀ b,o.blk=some b→p.blk ≠ some b
structure OW (w:World) (os:List Ob) (x:World):Prop where
  up:Below w.heap.size w x
  ob:∀ o,o ∈ os→o.at_ w.heap.size x
  ne:os.Pairwise Ap
section
variable {w x y : World} {os os' ps : List Ob} {o p : Ob} {B g i j n sz c : Nat} {T : TypeId} {v : Value} {cs vs news : List Value} {S : Nat → Prop} {A : Option Addr} {l : List UInt8}
theorem own_vblock {e:TypeId} (h:w.ownsRow B e sz v n cs):vBlock v=v.ownBlock:=by
 rcases h.2 with ⟨rfl,_⟩ | ⟨g,cap,cur,rfl,_⟩ <;> rfl
theorem own_rebase {B':Nat} (h:w.ownsRow B T sz v n cs) (hb:B'≤B):w.ownsRow B' T sz v n cs:=by
 refine ⟨h.1,?_⟩
 rcases h.2 with h | ⟨g,cap,cur,hv,hg,hr⟩
 ·exact .inl h
 ·exact .inr ⟨g,cap,cur,hv,Nat.le_trans hb hg,hr⟩
theorem Ap.symm (h:Ap o p):Ap p o:=fun b hb e=>h b e hb
theorem Ob.at0.lt {b:Nat} (h:o.at0 B x) (hb:o.blk=some b):B≤b∧b < x.heap.size:=by
 cases hq:o.bx with
 | true =>
  obtain ⟨g,h1,h2,h3,_⟩:=h.1 hq
  unfold Ob.blk at hb;rw [h1] at hb;injection hb with hb;subst hb;exact ⟨h2,h3⟩
 | false =>
  have h1:=h.2 hq
  unfold Ob.blk at hb;rw [own_vblock h1] at hb;exact World.ownsRow.lt h1 b hb
theorem Ob.at0.chg (h:o.at0 B x) (hc:Chg S x y) (hn:∀ b,o.blk=some b→¬ S b):o.at0 B y:=by
 refine ⟨fun hq=>?_,fun hq=>?_⟩
 ·obtain ⟨g,h1,h2,h3,h4,h5⟩:=h.1 hq
  have hg:¬ S g:=hn g (by unfold Ob.blk;rw [h1];rfl)
  exact ⟨g,h1,h2,Nat.lt_of_lt_of_le h3 hc.size,fun j v hv=>hc.cell (h4 j v hv) hg,fun j=>(World.frozen?_of_block (hc.block g h3 hg)).trans (h5 j)⟩
 ·exact own_chg (h.2 hq) hc fun g hg=>hn g (by unfold Ob.blk;rw [own_vblock (h.2 hq)];exact hg)
theorem Ob.at0.mono {B':Nat} (h:o.at0 B x) (hb:B'≤B):o.at0 B' x :=
 ⟨fun hq=>by
  obtain ⟨g,h1,h2,h3⟩:=h.1 hq
  exact ⟨g,h1,Nat.le_trans hb h2,h3⟩,fun hq=>own_rebase (h.2 hq) hb⟩
theorem Ob.at_.some_ {φ:Obj→Prop} (h:o.at_ B x) (hr:o.raw=some φ):∃ k r,o.v = .pointer (some ⟨k,0,none⟩)∧B≤k∧x.heap[k]?=some r∧φ r:=by
 unfold Ob.at_ at h;rw [hr] at h;exact h
theorem Ob.at_.none_ (h:o.at_ B x) (hr:o.raw=none):o.at0 B x:=by
 unfold Ob.at_ at h;rw [hr] at h;exact h
theorem Ob.at_mk0 (hr:o.raw=none) (h:o.at0 B x):o.at_ B x:=by
 unfold Ob.at_;rw [hr];exact h
theorem Ob.at_mkr {φ:Obj→Prop} (hr:o.raw=some φ) (h:∃ k r,o.v = .pointer (some ⟨k,0,none⟩)∧B≤k∧x.heap[k]?=some r∧φ r):o.at_ B x:=by
 unfold Ob.at_;rw [hr];exact h
theorem Ob.at_.lt {b:Nat} (h:o.at_ B x) (hb:o.blk=some b):B≤b∧b < x.heap.size:=by
 cases hr:o.raw with
 | none=>exact (h.none_ hr).lt hb
 | some φ =>
  obtain ⟨k,r,h1,h2,h3,_⟩:=h.some_ hr
  unfold Ob.blk at hb;rw [h1] at hb;injection hb with hb;subst hb
  exact ⟨h2,(Array.getElem?_eq_some_iff.1 h3).1⟩
theorem Ob.at_.chg (h:o.at_ B x) (hc:Chg S x y) (hn:∀ b,o.blk=some b→¬ S b):o.at_ B y:=by
 cases hr:o.raw with
 | none=>exact Ob.at_mk0 hr ((h.none_ hr).chg hc hn)
 | some φ =>
  obtain ⟨k,r,h1,h2,h3,h4⟩:=h.some_ hr
  exact Ob.at_mkr hr ⟨k,r,h1,h2,(hc.block k (Array.getElem?_eq_some_iff.1 h3).1 (hn k (by unfold Ob.blk;rw [h1];rfl))).trans h3,h4⟩
theorem Ob.at_.mono {B':Nat} (h:o.at_ B x) (hb:B'≤B):o.at_ B' x:=by
 cases hr:o.raw with
 | none=>exact Ob.at_mk0 hr ((h.none_ hr).mono hb)
 | some φ =>
  obtain ⟨k,r,h1,h2,h3⟩:=h.some_ hr
  exact Ob.at_mkr hr ⟨k,r,h1,Nat.le_trans hb h2,h3⟩
theorem OW.nil (w:World):OW w [] w:=⟨Below.refl _ _,fun o h=>(by cases h),List.Pairwise.nil⟩
theorem OW.later (h:OW w os x) (k:Below x.heap.size x y):OW w os y :=
 ⟨h.up.trans (k.mono h.up.size),fun o ho=>(h.ob o ho).chg (S:=fun _=>False) (Below.chg0 k) fun _ _ e=>e,h.ne⟩
theorem OW.drew (h:OW w os x):OW w os x.drew:=h.later (Below.refl _ _).drew
theorem OW.al (h:OW w os x) (o:Obj):OW w os (x.alloc o):=h.later ((Below.refl _ _).alloc (Nat.le_refl _) o)
theorem OW.perm (h:OW w os x) (hp:os.Perm os'):OW w os' x :=
 ⟨h.up,fun o ho=>h.ob o (hp.mem_iff.2 ho),(hp.pairwise_iff (fun h=>Ap.symm h)).1 h.ne⟩
theorem OW.sub (h:OW w os x) (hp:os'.Sublist os):OW w os' x:=⟨h.up,fun o ho=>h.ob o (hp.mem ho),h.ne.sublist hp⟩
theorem OW.erase (h:OW w os x) (i:Nat):OW w (os.eraseIdx i) x:=h.sub (List.eraseIdx_sublist _ _)
theorem OW.left (h:OW w (os ++ ps) x):OW w os x:=h.sub (List.sublist_append_left _ _)
theorem OW.right (h:OW w (os ++ ps) x):OW w ps x:=h.sub (List.sublist_append_right _ _)
theorem OW.app (h:OW w os x) (k:OW x ps y):OW w (os ++ ps) y:=by
 have h':=h.later k.up
 refine ⟨h'.up,fun o ho=>?_,?_⟩
 ·rcases List.mem_append.1 ho with ho | ho
  ·exact h'.ob o ho
  ·exact (k.ob o ho).mono h.up.size
 ·refine List.pairwise_append.2 ⟨h.ne,k.ne,fun a ha b hb c hc e=>?_⟩
  have h1:=((h.ob a ha).lt hc).2
  have h2:=((k.ob b hb).lt e).1
  omega
theorem split_at {α:Type} {l:List α} {i:Nat} {a:α} (h:l[i]?=some a):∃ l1 l2,l=l1 ++ a::l2∧l1.length=i:=by
 obtain ⟨hi,e⟩:=List.getElem?_eq_some_iff.1 h
 refine ⟨l.take i,l.drop (i + 1),?_,by simp;omega⟩
 rw [← e,List.getElem_cons_drop,List.take_append_drop]
theorem OW.front (h:OW w os x) (hi:os[i]?=some o):OW w (o::os.eraseIdx i) x:=by
 obtain ⟨l1,l2,rfl,rfl⟩:=split_at hi
 have e:(l1 ++ o::l2).eraseIdx l1.length=l1 ++ l2:=by
  rw [List.eraseIdx_append_of_length_le (Nat.le_refl _),Nat.sub_self];rfl
 rw [e]
 exact h.perm List.perm_middle
theorem OW.upd (h:OW w os x) (hi:os[i]?=some o) (hc:Chg S x y) (hS:∀ b,b < x.heap.size→S b→o.blk=some b) (ho:p.at_ w.heap.size y) (hb:∀ b,p.blk=some b→o.blk=some b∨x.heap.size≤b):OW w (os.set i p) y:=by
 obtain ⟨l1,l2,rfl,rfl⟩:=split_at hi
 have e:(l1 ++ o::l2).set l1.length p=l1 ++ p::l2:=by
  rw [List.set_append_right _ _ (Nat.le_refl _),Nat.sub_self];rfl
 rw [e]
 obtain ⟨n1,n2,n3⟩:=List.pairwise_append.1 h.ne
 obtain ⟨n4,n5⟩:=List.pairwise_cons.1 n2
 have keep:∀ q,q ∈ l1 ++ o::l2→Ap o q→q.at_ w.heap.size y:=fun q hq ha =>
  (h.ob q hq).chg hc fun b hb hs=>ha b (hS b ((h.ob q hq).lt hb).2 hs) hb
 have ap:∀ q,q ∈ l1 ++ o::l2→Ap o q→Ap p q:=fun q hq ha b hpb hqb=>by
  rcases hb b hpb with h1 | h1
  ·exact ha b h1 hqb
  ·have:=((h.ob q hq).lt hqb).2;omega
 refine ⟨h.up.trans (hc.below h.up.size fun k hk hs=>((h.ob o (by simp)).lt (hS k hk hs)).1),fun q hq=>?_,List.pairwise_append.2 ⟨n1,List.pairwise_cons.2 ⟨fun q hq=>ap q (by simp [hq]) (n4 q hq),n5⟩,fun q hq r hr=>?_⟩⟩
 ·rcases List.mem_append.1 hq with h1 | h1
  ·exact keep q (by simp [h1]) (Ap.symm (n3 q h1 o (by simp)))
  ·rcases List.mem_cons.1 h1 with rfl | h1
   ·exact ho
   ·exact keep q (by simp [h1]) (n4 q h1)
 ·rcases List.mem_cons.1 hr with rfl | h1
  ·exact Ap.symm (ap q (by simp [hq]) (Ap.symm (n3 q hq o (by simp))))
  ·exact n3 q hq r (by simp [h1])
theorem OW.get (h:OW w os x) (hi:os[i]?=some o):o.at_ w.heap.size x:=h.ob o (List.mem_of_getElem? hi)
theorem OW.apart (h:OW w os x) (hi:os[i]?=some o) (hj:os[j]?=some p) (hne:i ≠ j):Ap o p:=by
 obtain ⟨h1,e1⟩:=List.getElem?_eq_some_iff.1 hi
 obtain ⟨h2,e2⟩:=List.getElem?_eq_some_iff.1 hj
 subst e1;subst e2
 rcases Nat.lt_or_gt_of_ne hne with h3 | h3
 ·exact List.pairwise_iff_getElem.1 h.ne i j h1 h2 h3
 ·exact Ap.symm (List.pairwise_iff_getElem.1 h.ne j i h2 h1 h3)
theorem OW.box (h:OW w os x) (hi:os[i]?=some (boxO g cs)):w.heap.size≤g∧g < x.heap.size∧x.rangeAt g 0 cs∧∀ j,x.frozen? ⟨g,j,none⟩=false:=by
 obtain ⟨g',h1,h2⟩:=(h.get hi).1 rfl
 injection h1 with h1;injection h1 with h1;injection h1 with h1
 subst h1;exact h2
theorem OW.range (h:OW w os x) (hi:os[i]?=some (boxO g cs)):x.rangeAt g 0 cs:=(h.box hi).2.2.1
theorem OW.cell (h:OW w os x) (hi:os[i]?=some (boxO g cs)) (hv:cs[j]?=some v):x.cell? ⟨g,j,none⟩=some v:=by
 have:=h.range hi j v hv;rwa [Nat.zero_add] at this
theorem OW.fz (h:OW w os x) (hi:os[i]?=some (boxO g cs)) (j:Nat):x.frozen? ⟨g,j,none⟩=false:=(h.box hi).2.2.2 j
theorem OW.row (h:OW w os x) (hi:os[i]?=some (rowO T sz v n cs)):x.ownsRow w.heap.size T sz v n cs:=(h.get hi).2 rfl
theorem OW.byt (h:OW w os x) (hi:os[i]?=some (bytO T (A,c,l))):OwnB T w.heap.size x A c l:=(h.get hi).2 rfl
theorem OW.sl (h:OW w os x) (hi:os[i]?=some (bytO T (A,c,l))) (hn:l.length=n):Sl x A n c l:=hn ▸ Sl.own (h.byt hi)
theorem OW.cellm (h:OW w os x) (hm:boxO g cs ∈ os) (hv:cs[j]?=some v):x.cell? ⟨g,j,none⟩=some v:=by
 obtain ⟨i,hi⟩:=List.getElem?_of_mem hm
 exact h.cell hi hv
theorem OW.rowm (h:OW w os x) (hm:rowO T sz v n cs ∈ os):x.ownsRow w.heap.size T sz v n cs:=(h.ob _ hm).2 rfl
theorem OW.slm (h:OW w os x) (hm:bytO T (A,c,l) ∈ os) (hn:l.length=n):Sl x A n c l:=hn ▸ Sl.own (h.rowm (T:=T) (sz:=1) hm)
theorem OW.row1 (k:Below x.heap.size x y) (h:y.ownsRow x.heap.size T sz v n cs):OW x [rowO T sz v n cs] y :=
 ⟨k,fun o ho=>by
  obtain rfl:=List.mem_singleton.1 ho
  exact ⟨(fun e=>nomatch e),fun _=>h⟩,List.pairwise_singleton _ _⟩
theorem OW.byt1 (k:Below x.heap.size x y) (h:OwnB T x.heap.size y A c l):OW x [bytO T (A,c,l)] y :=
 ⟨k,fun o ho=>by
  obtain rfl:=List.mem_singleton.1 ho
  exact ⟨(fun e=>nomatch e),fun _=>h⟩,List.pairwise_singleton _ _⟩
theorem OW.box1 (x:World) (t:TypeId) (cs:List Value):OW x [boxO x.heap.size cs] (x.alloc (.cells cs.toArray t)) :=
 ⟨(Below.refl _ _).alloc (Nat.le_refl _) _,fun o ho=>by
  obtain rfl:=List.mem_singleton.1 ho
  exact ⟨fun _=>⟨x.heap.size,rfl,Nat.le_refl _,by show _ < (x.heap.push _).size;simp,range_new _ _ _,fun j=>by simp⟩,fun e=>nomatch e⟩,List.pairwise_singleton _ _⟩
theorem OW.lit1 (x:World) (C:Array Value) (e:TypeId) (sz n:Nat) (hm:n≤maxLen) (hs:C.size=n * sz):OW x [rowO e sz (.slice (some ⟨x.heap.size,0,none⟩) n n) n C.toList] (x.alloc (.cells C e)) :=
 OW.row1 ((Below.refl _ _).alloc (Nat.le_refl _) _) (World.ownsRow_lit x C n (Nat.le_refl _) hm hs)
theorem byt_blk (r:Option Addr×Nat×List UInt8):(bytO T r).blk=r.1.map (·.block):=by
 obtain ⟨A,c,l⟩:=r
 cases A <;> rfl
theorem OW.rows1 {rs:RowL} (k:Below x.heap.size x y) (h:RowsB T x.heap.size y rs):OW x (rs.map (bytO T)) y:=by
 refine ⟨k,fun o ho=>?_,?_⟩
 ·obtain ⟨r,hr,rfl⟩:=List.mem_map.1 ho
  obtain ⟨i,hi⟩:=List.getElem?_of_mem hr
  exact ⟨(fun e=>nomatch e),fun _=>h.1 i r hi⟩
 ·rw [List.pairwise_map]
  refine List.pairwise_iff_getElem.2 fun i j hi hj hij b hb e=>?_
  rw [byt_blk] at hb e
  obtain ⟨a,ha,ha'⟩:=Option.map_eq_some_iff.1 hb
  obtain ⟨a2,ha2,ha2'⟩:=Option.map_eq_some_iff.1 e
  exact h.2 i j _ _ (List.getElem?_eq_getElem hi) (List.getElem?_eq_getElem hj) (Nat.ne_of_lt hij) a a2 ha ha2 (ha'.trans ha2'.symm)
theorem St.ow {T:TypeId} {bs:List (Nat×List Value)} {rs:RowL} (h:St T w (bs.map some) rs x):OW w (bs.map (fun b=>boxO b.1 b.2) ++ rs.map (bytO T)) x:=by
 have hr:=OW.rows1 (x:=w) h.up h.rows
 refine ⟨h.up,fun o ho=>?_,List.pairwise_append.2 ⟨?_,hr.ne,fun o ho p hp b hb e=>?_⟩⟩
 ·rcases List.mem_append.1 ho with ho | ho
  ·obtain ⟨⟨g,cs⟩,hb,rfl⟩:=List.mem_map.1 ho
   obtain ⟨i,hi⟩:=List.getElem?_of_mem hb
   obtain ⟨h1,h2,h3,h4⟩:=h.box i g cs (by rw [List.getElem?_map,hi];rfl)
   exact ⟨fun _=>⟨g,rfl,h1,h2,h3,h4⟩,fun e=>nomatch e⟩
  ·exact hr.ob o ho
 ·rw [List.pairwise_map]
  refine List.pairwise_iff_getElem.2 fun i j hi hj hij b hb e=>?_
  injection hb with hb
  injection e with e
  refine h.ne i j bs[i].1 bs[i].2 bs[j].1 bs[j].2 (by rw [List.getElem?_map,List.getElem?_eq_getElem hi];rfl) (by rw [List.getElem?_map,List.getElem?_eq_getElem hj];rfl) (Nat.ne_of_lt hij) (hb.trans e.symm)
 ·obtain ⟨⟨g,cs⟩,hb',rfl⟩:=List.mem_map.1 ho
  obtain ⟨r,hr',rfl⟩:=List.mem_map.1 hp
  obtain ⟨i,hi⟩:=List.getElem?_of_mem hb'
  obtain ⟨j,hj⟩:=List.getElem?_of_mem hr'
  rw [byt_blk] at e
  obtain ⟨a,ha,ha'⟩:=Option.map_eq_some_iff.1 e
  injection hb with hb
  exact h.off i j g cs r a (by rw [List.getElem?_map,hi];rfl) hj ha (ha'.trans hb.symm)
theorem OW.putR (h:OW w os x) (hi:os[i]?=some (boxO g cs)) (hc:Chg (fun b=>b=g) x y) (hr:y.rangeAt g 0 vs) (hf:∀ q,y.frozen? q=x.frozen? q):OW w (os.set i (boxO g vs)) y:=by
 obtain ⟨h1,h2,h3,h4⟩:=h.box hi
 exact h.upd hi hc (fun b _ e=>by subst e;rfl) ⟨fun _=>⟨g,rfl,h1,Nat.lt_of_lt_of_le h2 hc.size,hr,fun j=>(hf _).trans (h4 j)⟩,fun e=>nomatch e⟩ fun b hb => .inl hb
theorem OW.put (h:OW w os x) (hi:os[i]?=some (boxO g cs)) (hl:vs.length=cs.length):OW w (os.set i (boxO g vs)) (x.setCells g 0 vs):=by
 obtain ⟨h1,h2,h3,h4⟩:=h.box hi
 exact h.putR hi (setCells_chg g vs 0 x) (World.rangeAt_setCells_same x g 0 vs fun j hj=>⟨h3.isSome j (by omega),by rw [Nat.zero_add];exact h4 j⟩) fun q=>World.frozen?_setCells _ _ _ _ _
theorem OW.put1 (h:OW w os x) (hi:os[i]?=some (boxO g cs)) (j:Nat) (u:Value):OW w (os.set i (boxO g (cs.set j u))) (x.setCell ⟨g,j,none⟩ u):=by
 obtain ⟨h1,h2,hr,h4⟩:=h.box hi
 refine h.putR hi (Chg.setCell x ⟨g,j,none⟩ u) (fun k q hk=>?_) fun q=>World.frozen?_setCell _ _ _ _
 rw [Nat.zero_add]
 rw [List.getElem?_set] at hk
 by_cases e:j=k
 ·subst e
  rw [if_pos rfl] at hk
  split at hk
  ·rename_i hlt
   injection hk with hk;subst hk
   have:=hr j _ (List.getElem?_eq_getElem hlt)
   rw [Nat.zero_add] at this
   exact World.cell?_setCell_same _ _ _ this
  ·cases hk
 ·rw [if_neg e] at hk
  rw [World.cell?_setCell_other _ _ _ _ (fun e'=>by injection e' with _ e' _;exact e e')]
  have:=hr k q hk
  rwa [Nat.zero_add] at this
theorem OW.grow {v':Value} {m:Nat} (h:OW w os x) (hi:os[i]?=some (rowO T sz v n cs)) (ho:y.ownsRow w.heap.size T sz v' m vs) (hg:x.grownBy y v.ownBlock) (hat:v'.ownBlock=v.ownBlock∨v'.ownBlock=some x.heap.size):OW w (os.set i (rowO T sz v' m vs)) y:=by
 have hr:=h.row hi
 refine h.upd hi (grown_chg hg) (fun b _ e=>by show vBlock v=_;rw [own_vblock hr];exact e) ⟨(fun e=>nomatch e),fun _=>ho⟩ fun b hb=>?_
 have hb:vBlock v'=some b:=hb
 rw [own_vblock ho] at hb
 rcases hat with e | e
 ·left;show vBlock v=_;rw [own_vblock hr,← e];exact hb
 ·right;rw [e] at hb;injection hb with hb;omega
theorem OW.store {cap:Nat} (h:OW w os x) (hi:os[i]?=some (rowO T sz (.slice (some ⟨g,0,none⟩) n cap) n cs)) (j:Nat) (u:Value):OW w (os.set i (rowO T sz (.slice (some ⟨g,0,none⟩) n cap) n (cs.set j u))) (x.setCell ⟨g,j,none⟩ u) :=
 h.upd hi (Chg.setCell x ⟨g,j,none⟩ u) (fun b _ e=>by subst e;rfl) ⟨(fun e=>nomatch e),fun _=>(World.ownsRow.stored (h.row hi) j u).1⟩ fun b hb => .inl hb
end
section
variable {P : Program} {ops : Array Oper} {Q : Exit → Act → World → Prop} {F : List Nat} {S : World → Prop}
def finB (F:List Nat) (listed:Array Bool):Bool:=F.any fun k=>listed.getD k false
def wpAnyT (P:Program) (ops:Array Oper) (Q:Exit→Act→World→Prop) (F:List Nat) (S:World→Prop):Nat→Array Bool→Act→World→Prop
 | 0,listed,a,w=>Region.ready .any ops listed=[]∧Q .normal a w
 | fuel + 1,listed,a,w =>
  (Region.ready .any ops listed=[]→Q .normal a w) ∧
  ∀ i ∈ Region.ready .any ops listed,wpOp P ops Q i (fun a' w'=>(finB F (listed.setIfInBounds i true)=false→S w')∧wpAnyT P ops Q F S fuel (listed.setIfInBounds i true) a' w') a w
theorem wpAny_of_T:∀ (fuel:Nat) (listed:Array Bool) (a:Act) (w:World),wpAnyT P ops Q F S fuel listed a w→wpAny P .any ops Q fuel listed a w
 | 0,_,_,_,h=>h
 | fuel + 1,_,_,_,h=>⟨h.1,fun i hi=>wpOp_mono (fun a' w' h'=>wpAny_of_T fuel _ a' w' h'.2) (h.2 i hi)⟩
def depB (ops:Array Oper) (i:Nat) (D:List Nat):Bool:=!D.contains i && D.all fun k=>match ops[k]? with
 | none=>false
 | some o=>o.after.any fun e=>Region.binds .any e && (e.on == i || D.contains e.on)
theorem getD_ne {L:Array Bool} {j k:Nat} (d:Bool) (h:j ≠ k):(L.setIfInBounds j true).getD k d=L.getD k d:=by
 simp only [Array.getD_eq_getD_getElem?,Array.getElem?_setIfInBounds_ne h]
theorem fin_off {D:List Nat} {L:Array Bool} (hF:F.all (D.contains ·)=true) (hL:∀ k,k ∈ D→L.getD k false=false):finB F L=false:=by
 unfold finB
 rw [List.any_eq_false]
 intro k hk
 have h1:=List.all_eq_true.1 hF k hk
 rw [hL k (by simpa using h1)];simp
theorem fin_set {L:Array Bool} {i:Nat} (hi:F.contains i=false):finB F (L.setIfInBounds i true)=finB F L:=by
 unfold finB
 have:∀ G:List Nat,(∀ k,k ∈ G→k ≠ i)→(G.any fun k=>(L.setIfInBounds i true).getD k false)=G.any fun k=>L.getD k false:=fun G=>by
  induction G with
  | nil=>intro _;rfl
  | cons k G ih =>
   intro h
   rw [List.any_cons,List.any_cons,ih fun q hq=>h q (List.mem_cons_of_mem _ hq),getD_ne false (fun e=>h k (by simp) e.symm)]
 exact this F fun k hk e=>by
  subst e
  have:F.contains k=true:=by simpa using hk
  rw [hi] at this;cases this
theorem wpAnyT_first {i:Nat} {oi:Oper} {v:Value} (R:World→Prop) (hi:ops[i]?=some oi) (hsel:∀ (j:Nat) (o:Oper) cs b,ops[j]?=some o→o.op ≠ .select cs b)
  (hQ:∀ c a w,Q (.panic c) (a.put oi.dst v) w→Q (.panic c) a w) (D:List Nat) (hD:depB ops i D=true) (hiF:F.contains i=false)
  (hR:∀ (L:Array Bool) w,(∀ k,k ∈ D→L.getD k false=false)→(finB F L=false→S w)→R w) :
  ∀ (fuel:Nat) (listed:Array Bool) (a:Act) (w:World),
   (∀ j oj,ops[j]?=some oj→j ≠ i→listed.getD j true=false→(∀ e ∈ oj.after,Region.binds .any e=true→e.on ≠ i)→oi.apart ops oj=true) →
   i ∈ Region.ready .any ops listed→(∀ k,k ∈ D→listed.getD k false=false)→YieldsIf P ops R oi v a→(finB F listed=false→S w) →
   wpAnyT P ops Q F S fuel (listed.setIfInBounds i true) (a.put oi.dst v) w→wpAnyT P ops Q F S (fuel + 1) listed a w:=by
 obtain ⟨hDi,hDe⟩:=Bool.and_eq_true_iff.1 hD
 intro fuel
 induction fuel with
 | zero =>
  intro listed a w _ hr hun hy hS H
  refine ⟨fun h=>(by rw [h] at hr;cases hr),fun j hj=>?_⟩
  by_cases hji:j=i
  ·subst hji;exact hy.wpOp hi (hR listed w hun hS) ⟨fun e=>hS (by rwa [fin_set hiF] at e),H⟩
  ·have:=ready_mono hj hji
   rw [H.1] at this
   cases this
 | succ fuel ih =>
  intro listed a w hfree hr hun hy hS H
  refine ⟨fun h=>(by rw [h] at hr;cases hr),fun j hj=>?_⟩
  by_cases hji:j=i
  ·subst hji;exact hy.wpOp hi (hR listed w hun hS) ⟨fun e=>hS (by rwa [fin_set hiF] at e),H⟩
  ·have h1:=H.2 j (ready_mono hj hji)
   obtain ⟨hjun,oj,hoj,hall⟩:=mem_ready.1 hj
   have hiun:=(mem_ready.1 hr).1
   have hi0:listed.getD i false=true→False:=fun h1=>by
    rcases Nat.lt_or_ge i listed.size with h' | h'
    ·simp [h'] at hiun h1;rw [hiun] at h1;cases h1
    ·simp [Array.getElem?_eq_none h'] at h1
   have hnot:∀ e ∈ oj.after,Region.binds .any e=true→e.on ≠ i:=fun e he hb heq=>hi0 (heq ▸ hall e he hb)
   have hjD:j ∉ D:=fun hjm=>by
    have h2:=List.all_eq_true.1 hDe j hjm
    rw [hoj] at h2
    have h2':oj.after.any (fun e=>Region.binds .any e && (e.on == i || D.contains e.on))=true:=h2
    rw [← Array.any_toList,List.any_eq_true] at h2'
    obtain ⟨e,he,h3⟩:=h2'
    have he:=Array.mem_toList_iff.1 he
    obtain ⟨hb,h4⟩:=Bool.and_eq_true_iff.1 h3
    have h5:=hall e he hb
    rcases Bool.or_eq_true_iff.1 h4 with h6 | h6
    ·exact hi0 ((beq_iff_eq.1 h6) ▸ h5)
    ·rw [hun e.on (by simpa using h6)] at h5;cases h5
   have hiD:i ∉ D:=by simpa using hDi
   have hun':∀ k,k ∈ D→(listed.setIfInBounds j true).getD k false=false:=fun k hk=>by
    have h3:j ≠ k:=fun e=>hjD (by rw [e];exact hk)
    rw [getD_ne false h3];exact hun k hk
   have h2:=wpOp_putIf hoj (hfree j oj hoj hji hjun hnot) (fun cs b=>hsel i oi cs b hi) (fun cs b=>hsel j oj cs b hoj) hQ hy h1
   have hfree':∀ k ok,ops[k]?=some ok→k ≠ i→(listed.setIfInBounds j true).getD k true=false →
     (∀ e ∈ ok.after,Region.binds .any e=true→e.on ≠ i)→oi.apart ops ok=true:=fun k ok hk hki hun hno=>by
    refine hfree k ok hk hki ?_ hno
    by_cases hjk:j=k
    ·subst hjk;exact hjun
    ·rw [getD_ne true hjk] at hun;exact hun
   refine wpOp_mono (fun a' w' h3=>?_) h2
   have hS':finB F (listed.setIfInBounds j true)=false→S w':=fun e=>h3.2.1 (by rw [Array.setIfInBounds_comm _ _ (Ne.symm hji),fin_set hiF];exact e)
   refine ⟨hS',ih (listed.setIfInBounds j true) a' w' hfree' (ready_mono hr (Ne.symm hji)) hun' h3.1 hS' ?_⟩
   rw [Array.setIfInBounds_comm _ _ hji]
   exact h3.2.2
end
section
variable {P : Program} {Q : Exit → Act → World → Prop} {F : List Nat} {S : World → Prop} {l : List Oper} {fuel : Nat} {listed : Array Bool} {a : Act} {w : World} {i : Nat} {o : Oper} {v : Value}
theorem lt_start {id:Nat} (F:List Nat) (hm:P.follows .mixedOrders=true) (h:∀ z,Below w.heap.size w z→∃ S,wpAnyT P l.toArray Q F S l.length (Array.replicate l.length false) a z):(Code.region id l.toArray true).wp P Q a w:=by
 obtain ⟨S,h⟩:=h w.drew (Below.refl _ _).drew
 exact wp_region_any hm (wpAny_of_T _ _ _ _ (by simpa using h))
theorem lt_take (i:Nat) (D:List Nat) {o:Oper} (hi:l[i]?=some o) (hs:Region.noSelect l.toArray=true) (hf:Region.free .any l.toArray listed i=true) (hr:(Region.ready .any l.toArray listed).contains i=true)
  (hd:depB l.toArray i D=true) (hF:(F.all (D.contains ·) && !F.contains i && D.all (fun k=>!listed.getD k false))=true)
  (hQ:∀ c a w,Q (.panic c) (a.put o.dst v) w→Q (.panic c) a w) (hy:YieldsIf P l.toArray S o v a) (hS:S w)
  (h:wpAnyT P l.toArray Q F S fuel (listed.setIfInBounds i true) (a.put o.dst v) w):wpAnyT P l.toArray Q F S (fuel + 1) listed a w:=by
 simp only [Bool.and_eq_true,Bool.not_eq_true'] at hF
 exact wpAnyT_first S (lx_at hi) (Region.noSelect_spec hs) hQ D hd hF.1.2 (fun L w hL hS=>hS (fin_off hF.1.1 hL)) fuel listed a w (Region.free_spec (lx_at hi) hf) (by simpa using hr) (fun k hk=>by simpa using List.all_eq_true.1 hF.2 k hk) hy (fun _=>hS) h
theorem lt_pure (i:Nat) {o:Oper} (hi:l[i]?=some o) (hs:Region.noSelect l.toArray=true) (hf:Region.free .any l.toArray listed i=true) (hr:(Region.ready .any l.toArray listed).contains i=true) (hiF:F.contains i=false)
  (hQ:∀ c a w,Q (.panic c) (a.put o.dst v) w→Q (.panic c) a w) (hy:YieldsIf P l.toArray (fun _=>True) o v a) (hS:finB F listed=false→S w)
  (h:wpAnyT P l.toArray Q F S fuel (listed.setIfInBounds i true) (a.put o.dst v) w):wpAnyT P l.toArray Q F S (fuel + 1) listed a w :=
 wpAnyT_first (fun _=>True) (lx_at hi) (Region.noSelect_spec hs) hQ [] (by simp [depB]) hiF (fun _ _ _ _=>trivial) fuel listed a w (Region.free_spec (lx_at hi) hf) (by simpa using hr) (fun k hk=>by cases hk) hy hS h
theorem lt_skip (i:Nat) {o:Oper} (hi:l[i]?=some o) (hs:Region.noSelect l.toArray=true) (hf:Region.free .any l.toArray listed i=true) (hr:(Region.ready .any l.toArray listed).contains i=true) (hiF:F.contains i=false)
  (hQ:∀ c a w,Q (.panic c) (a.put o.dst undef) w→Q (.panic c) a w) (hw:Region.wanted o (yielded l.toArray a.tmps)=false) (hS:finB F listed=false→S w)
  (h:wpAnyT P l.toArray Q F S fuel (listed.setIfInBounds i true) (a.put o.dst undef) w):wpAnyT P l.toArray Q F S (fuel + 1) listed a w :=
 lt_pure i hi hs hf hr hiF hQ (.inr ⟨hw,rfl⟩) hS h
theorem ls1 {α:Type _} (l:List α) (i:Nat) (a:α):l.toArray.setIfInBounds i a=(l.set i a).toArray:=List.setIfInBounds_toArray ..
theorem ls2 {α:Type _} {a b:α} {l:List α}:(a::l).set 0 b=b::l:=rfl
theorem ls3 {α:Type _} {a b:α} {l:List α} {n:Nat}:(a::l).set (n + 1) b=a::l.set n b:=rfl
theorem lp (i:Nat) {o:Oper} (hi:l[i]?=some o) (hx:∀ w,(execOp a.eval o).run P w = .ok (.value v) w) (hS:finB F listed=false→S w)
 (h:wpAnyT P l.toArray Q F S fuel (listed.setIfInBounds i true) (a.put o.dst v) w) (hs:Region.noSelect l.toArray=true:=by kernel_rfl) (hf:Region.free .any l.toArray listed i=true:=by kernel_rfl) (hr:(Region.ready .any l.toArray listed).contains i=true:=by kernel_rfl) (hiF:F.contains i=false:=by kernel_rfl)
 (hQ:∀ c a w,Q (.panic c) (a.put o.dst v) w→Q (.panic c) a w:=by exact fun _ _ _ h=>h) (hw:Region.wanted o (yielded l.toArray a.tmps)=true:=by exact rfl):wpAnyT P l.toArray Q F S (fuel + 1) listed a w :=
 lt_pure i hi hs hf hr hiF hQ (yi_run hw hx) hS h
theorem lq (i:Nat) (D:List Nat) {o:Oper} (hi:l[i]?=some o) (hy:YieldsIf P l.toArray S o v a) (hS:S w)
 (h:wpAnyT P l.toArray Q F S fuel (listed.setIfInBounds i true) (a.put o.dst v) w) (hs:Region.noSelect l.toArray=true:=by kernel_rfl) (hf:Region.free .any l.toArray listed i=true:=by kernel_rfl) (hr:(Region.ready .any l.toArray listed).contains i=true:=by kernel_rfl)
 (hd:depB l.toArray i D=true:=by kernel_rfl) (hF:(F.all (D.contains ·) && !F.contains i && D.all (fun k=>!listed.getD k false))=true:=by kernel_rfl)
 (hQ:∀ c a w,Q (.panic c) (a.put o.dst v) w→Q (.panic c) a w:=by exact fun _ _ _ h=>h):wpAnyT P l.toArray Q F S (fuel + 1) listed a w :=
 lt_take i D hi hs hf hr hd hF hQ hy hS h
theorem lk (i:Nat) {o:Oper} (hi:l[i]?=some o) (hS:finB F listed=false→S w)
 (h:wpAnyT P l.toArray Q F S fuel (listed.setIfInBounds i true) (a.put o.dst undef) w) (hs:Region.noSelect l.toArray=true:=by kernel_rfl) (hf:Region.free .any l.toArray listed i=true:=by kernel_rfl) (hr:(Region.ready .any l.toArray listed).contains i=true:=by kernel_rfl) (hiF:F.contains i=false:=by kernel_rfl)
 (hQ:∀ c a w,Q (.panic c) (a.put o.dst undef) w→Q (.panic c) a w:=by exact fun _ _ _ h=>h) (hw:Region.wanted o (yielded l.toArray a.tmps)=false:=by exact rfl):wpAnyT P l.toArray Q F S (fuel + 1) listed a w :=
 lt_skip i hi hs hf hr hiF hQ hw hS h
theorem ls {α:Type _}:(∀ (l:List α) (i:Nat) (a:α),l.toArray.setIfInBounds i a=(l.set i a).toArray)∧(∀ (a b:α) (l:List α),(a::l).set 0 b=b::l)∧∀ (a b:α) (l:List α) (n:Nat),(a::l).set (n + 1) b=a::l.set n b:=⟨fun l i a=>ls1 l i a,fun _ _ _=>rfl,fun _ _ _ _=>rfl⟩
theorem lp2 (i:Nat) {o:Oper} (hi:l[i]?=some o) (hS:finB F listed=false→S w) (h:wpAnyT P l.toArray Q F S fuel (listed.setIfInBounds i true) (a.put o.dst v) w) (hx:∀ w,(execOp a.eval o).run P w = .ok (.value v) w:=by intro w;first | (go_simp;done) | (go_simp;with_reducible rfl))
 (hs:Region.noSelect l.toArray=true:=by kernel_rfl) (hf:Region.free .any l.toArray listed i=true:=by kernel_rfl) (hr:(Region.ready .any l.toArray listed).contains i=true:=by kernel_rfl) (hiF:F.contains i=false:=by kernel_rfl)
 (hQ:∀ c a w,Q (.panic c) (a.put o.dst v) w→Q (.panic c) a w:=by exact fun _ _ _ h=>h) (hw:Region.wanted o (yielded l.toArray a.tmps)=true:=by exact rfl):wpAnyT P l.toArray Q F S (fuel + 1) listed a w :=
 lp i hi hx hS h hs hf hr hiF hQ hw
theorem lt_pureF (i:Nat) {o:Oper} (hi:l[i]?=some o) (hs:Region.noSelect l.toArray=true) (hf:Region.free .any l.toArray listed i=true) (hr:(Region.ready .any l.toArray listed).contains i=true) (hiF:F.contains i=false) (hfin:finB F listed=true)
  (hQ:∀ c a w,Q (.panic c) (a.put o.dst v) w→Q (.panic c) a w) (hy:YieldsIf P l.toArray (fun _=>True) o v a)
  (h:wpAnyT P l.toArray Q F S fuel (listed.setIfInBounds i true) (a.put o.dst v) w):wpAnyT P l.toArray Q F S (fuel + 1) listed a w :=
 lt_pure i hi hs hf hr hiF hQ hy (fun e=>by rw [hfin] at e;cases e) h
theorem lt_op (i:Nat) {o:Oper} (hi:l[i]?=some o) (hr:Region.ready .any l.toArray listed=[i]) (hw:Region.wanted o (yielded l.toArray a.tmps)=true)
  (h:o.wp P a w (fun a' w'=>(finB F (listed.setIfInBounds i true)=false→S w')∧wpAnyT P l.toArray Q F S fuel (listed.setIfInBounds i true) a' w') Q):wpAnyT P l.toArray Q F S (fuel + 1) listed a w:=by
 refine ⟨fun h0=>?_,fun j hj=>?_⟩
 ·rw [hr] at h0;cases h0
 rw [hr] at hj
 obtain rfl:j=i:=by simpa using hj
 unfold wpOp
 rw [lx_at hi]
 simp only [hw,if_true]
 exact .inl h
theorem lt_end (i:Nat) {o:Oper} (hi:l[i]?=some o) (hr:Region.ready .any l.toArray listed=[i]) (hw:Region.wanted o (yielded l.toArray a.tmps)=true) (hfin:finB F (listed.setIfInBounds i true)=true)
  (h:o.wp P a w (wpAnyT P l.toArray Q F S fuel (listed.setIfInBounds i true)) Q):wpAnyT P l.toArray Q F S (fuel + 1) listed a w :=
 lt_op i hi hr hw (Oper.wp_mono (fun _ _ h=>⟨(fun e=>by rw [hfin] at e;cases e),h⟩) h)
theorem lt_call (i:Nat) {o:Oper} {f:FuncId} {xs:List Operand} {ats:Array TypeId} (hi:l[i]?=some o) (hr:Region.ready .any l.toArray listed=[i]) (hw:Region.wanted o (yielded l.toArray a.tmps)=true)
  (ho:o.op = .call { callee := .value (.func f),args:=xs.toArray,argTypes:=ats }) (hf:GoFn P f) (vals:List Value) (hv:xs.map a.eval=vals)
  (hc:Calls P f vals.toArray w fun e w'=>∃ v,e = .returned v∧(finB F (listed.setIfInBounds i true)=false→S w')∧wpAnyT P l.toArray Q F S fuel (listed.setIfInBounds i true) (a.put o.dst v) w'):wpAnyT P l.toArray Q F S (fuel + 1) listed a w :=
 lt_op i hi hr hw (wp_call_go ho hf vals.toArray (by rw [List.map_toArray,hv]) hc)
theorem lt_done (hr:Region.ready .any l.toArray listed=[]) (h:Q .normal a w):wpAnyT P l.toArray Q F S fuel listed a w:=by
 cases fuel with
 | zero=>exact ⟨hr,h⟩
 | succ f=>exact ⟨fun _=>h,fun i hi=>(by rw [hr] at hi;cases hi)⟩
end
section
variable {P : Program} {Q : Exit → Act → World → Prop} {K : Act → World → Prop} {o : Oper} {a : Act} {w x : World} {os : List Ob}
theorem wpo_append {t e:TypeId} {size bytes:Nat} (s y:Operand) (ho:o.op = .call { callee := .builtin .append,args:=#[s,y],argTypes:=#[t,t] }) (hS:SliceOf P t e size bytes) (h:OW w os x) (i:Nat) {v:Value} {n:Nat} {cs:List Value} (hi:os[i]?=some (rowO e size v n cs)) (hs:a.eval s=v)
  (B:Nat) (A:Option Addr) (m c:Nat) (news:List Value) (hy:a.eval y = .slice A m c) (hr:Reads x B size A m news) (h1:∀ u ∈ news,u.oneCell'=true) (h63:n + m≤maxLen) (hbytes:(n + m) * bytes≤140737488355328)
  (hK:∀ A' c' z,OW w (os.set i (rowO e size (.slice A' (n + m) c') (n + m) (cs ++ news))) z→x.grownBy z v.ownBlock→K (a.put o.dst (.slice A' (n + m) c')) z):o.wp P a x K Q:=by
 refine wp_append_reads x s y ho hS w.heap.size v n cs hs (h.row hi) B A m c news hy hr h1 h63 hbytes h.up.size fun v' w' h2 h3 h4=>?_
 obtain ⟨A',c',rfl,_⟩:=own_slice h2
 exact hK A' c' w' (h.grow hi h2 h3 h4) h3
theorem wpo_build {t e:TypeId} {len sz bytes:Nat} {parts:Array (Nat×Operand)} (ho:o.op = .buildSlice t len parts) (C:Array Value) (hS:SliceOf P t e sz bytes) (z:Value) (hz:(P.info? e).bind (·.zero)=some z) (hsm:¬ len * sz > 2 ^ 24) (hp:¬ len * sz=0) (hm:len≤maxLen) (hsz:C.size=len * sz)
  (hf:Instr.fill (fun i=>some (i * sz,sz)) ((Array.range (len * sz)).map (z.cells[· % z.cells.size]!)) (parts.map fun (i,x)=>(i,a.eval x)).toList=some C)
  (h:OW w os x) (hK:∀ g z,OW w (os ++ [rowO e sz (.slice (some ⟨g,0,none⟩) len len) len C.toList]) z→Below x.heap.size x z→K (a.put o.dst (.slice (some ⟨g,0,none⟩) len len)) z):o.wp P a x K Q:=by
 obtain ⟨ht,⟨i,z',hi,hz',hsize,_,_⟩,_⟩:=hS
 rw [hi] at hz
 have hz:i.zero=some z:=hz
 rw [hz'] at hz;injection hz with hz;subst hz
 subst hsize
 exact wp_buildSlice t e len parts ho C i z' ht hi hz' hsm hp hf (hK _ _ (h.app (OW.lit1 x C e i.size len hm hsz)) ((Below.refl _ _).alloc (Nat.le_refl _) _))
theorem wpo_box {t:TypeId} {y:Operand} (ho:o.op = .box t y) (cs:List Value) (hx:(a.eval y).cells=cs.toArray) (h:OW w os x) (hK:∀ g z,OW w (os ++ [boxO g cs]) z→Below x.heap.size x z→K (a.put o.dst (.pointer (some ⟨g,0,none⟩))) z):o.wp P a x K Q:=by
 unfold Oper.wp execOp
 simp only [ho,Sem.run_bind,Instr.box,newVar,newRow,run_newObj_alloc,Sem.run_pure,Result.andThen_ok,hx]
 exact hK _ _ (h.app (OW.box1 x t cs)) ((Below.refl _ _).alloc (Nat.le_refl _) _)
theorem wpo_alloc {t:TypeId} (ho:o.op = .alloc t) (cs:List Value) (hz:(P.info? t).bind (·.zero)=some (.agg cs.toArray)∨∃ v:Value,(P.info? t).bind (·.zero)=some v∧v.cells=cs.toArray) (h:OW w os x) (hK:∀ g z,OW w (os ++ [boxO g cs]) z→Below x.heap.size x z→K (a.put o.dst (.pointer (some ⟨g,0,none⟩))) z):o.wp P a x K Q:=by
 obtain ⟨v,hv,hc⟩:∃ v:Value,(P.info? t).bind (·.zero)=some v∧v.cells=cs.toArray:=by
  rcases hz with h | h
  ·exact ⟨_,h,rfl⟩
  ·exact h
 refine wp_alloc_row ho hv ?_
 rw [hc]
 exact hK _ _ (h.app (OW.box1 x t cs)) ((Below.refl _ _).alloc (Nat.le_refl _) _)
theorem wpo_put {t:TypeId} {p y:Operand} (ho:o.op = .store t p y) (h:OW w os x) (i:Nat) {g:Nat} {cs:List Value} (hi:os[i]?=some (boxO g cs)) (hx:a.eval p = .pointer (some ⟨g,0,none⟩)) (vs:List Value) (hy:a.eval y = .agg vs.toArray) (hl:vs.length=cs.length) (ht:(P.info? t).map (·.size)=some vs.length) (h1:∀ u ∈ vs,u.oneCell'=true)
  (hK:∀ z,OW w (os.set i (boxO g vs)) z→Chg (fun b=>b=g) x z→K (a.put o.dst undef) z):o.wp P a x K Q :=
 wp_store_row ho hx hy (h.range hi) (h.fz hi) hl ht h1 (hK _ (h.put hi hl) (setCells_chg g vs 0 x))
theorem wpo_put1 {t:TypeId} {p y:Operand} (ho:o.op = .store t p y) (h:OW w os x) (i:Nat) {g:Nat} {cs:List Value} (hi:os[i]?=some (boxO g cs)) (j:Nat) (hx:a.eval p = .pointer (some ⟨g,j,none⟩)) (hj:j < cs.length) (v:Value) (hy:a.eval y=v) (ht:(P.info? t).map (·.size)=some 1) (h1:v.oneCell'=true)
  (hK:∀ z,OW w (os.set i (boxO g (cs.set j v))) z→Chg (fun b=>b=g) x z→K (a.put o.dst undef) z):o.wp P a x K Q:=by
 unfold Oper.wp execOp
 have hs:(x.cell? ⟨g,j,none⟩).isSome=true:=by
  rw [h.cell hi (List.getElem?_eq_getElem hj)];rfl
 simp only [ho,hx,hy,Instr.storeAt,Instr.sureAddr,Sem.run_bind,Sem.run_pure,Result.andThen_ok,run_storeVar_one x g j t v hs (h.fz hi j) h1 ht]
 exact hK _ (h.put1 hi j v) (Chg.setCell x ⟨g,j,none⟩ v)
theorem wpo_store {t:TypeId} {p y:Operand} (ho:o.op = .store t p y) (h:OW w os x) (i:Nat) {T:TypeId} {sz g n cap:Nat} {cs:List Value} (hi:os[i]?=some (rowO T sz (.slice (some ⟨g,0,none⟩) n cap) n cs)) (j:Nat) (hx:a.eval p = .pointer (some ⟨g,j,none⟩)) (hj:j < n * sz) (v:Value) (hy:a.eval y=v) (ht:(P.info? t).map (·.size)=some 1) (h1:v.oneCell'=true)
  (hK:∀ z,OW w (os.set i (rowO T sz (.slice (some ⟨g,0,none⟩) n cap) n (cs.set j v))) z→Chg (fun b=>b=g) x z→K (a.put o.dst undef) z):o.wp P a x K Q:=by
 unfold Oper.wp execOp
 have hr:=h.row hi
 have hs:(x.cell? ⟨g,j,none⟩).isSome=true:=by
  rw [World.ownsRow.cellAt hr j hj,List.getElem?_eq_getElem (by rw [hr.1];exact hj)];rfl
 simp only [ho,hx,hy,Instr.storeAt,Instr.sureAddr,Sem.run_bind,Sem.run_pure,Result.andThen_ok,run_storeVar_one x g j t v hs (World.ownsRow.frozenAt hr j) h1 ht]
 exact hK _ (h.store hi j v) (Chg.setCell x ⟨g,j,none⟩ v)
end
section
variable {P : Program} {ops : Array Oper} {Q : Exit → Act → World → Prop} {rest : List Oper} {o : Oper} {a : Act} {w x : World} {os : List Ob}
theorem wl_append {t e:TypeId} {size bytes:Nat} (hgd:Region.wanted o (yielded ops a.tmps)=true) (s y:Operand) (ho:o.op = .call { callee := .builtin .append,args:=#[s,y],argTypes:=#[t,t] }) (hS:SliceOf P t e size bytes) (h:OW w os x) (i:Nat) {v:Value} {n:Nat} {cs:List Value} (hi:os[i]?=some (rowO e size v n cs)) (hs:a.eval s=v)
  (B:Nat) (A:Option Addr) (m c:Nat) (news:List Value) (hy:a.eval y = .slice A m c) (hr:Reads x B size A m news) (h1:∀ u ∈ news,u.oneCell'=true) (h63:n + m≤maxLen) (hbytes:(n + m) * bytes≤140737488355328)
  (hK:∀ A' c' z,OW w (os.set i (rowO e size (.slice A' (n + m) c') (n + m) (cs ++ news))) z→x.grownBy z v.ownBlock→wpList P ops Q rest (a.put o.dst (.slice A' (n + m) c')) z):wpList P ops Q (o::rest) a x :=
 BigFrame.wpList_want hgd fun _ hk=>wpo_append s y ho hS h i hi hs B A m c news hy hr h1 h63 hbytes fun A' c' z hz hg=>hk _ _ (hK A' c' z hz hg)
theorem wl_build {t e:TypeId} {len sz bytes:Nat} (hgd:Region.wanted o (yielded ops a.tmps)=true) (parts:Array (Nat×Operand)) (ho:o.op = .buildSlice t len parts) (C:Array Value) (hS:SliceOf P t e sz bytes) (z:Value) (hz:(P.info? e).bind (·.zero)=some z) (hsm:¬ len * sz > 2 ^ 24) (hp:¬ len * sz=0) (hm:len≤maxLen) (hsz:C.size=len * sz)
  (hf:Instr.fill (fun i=>some (i * sz,sz)) ((Array.range (len * sz)).map (z.cells[· % z.cells.size]!)) (parts.map fun (i,x)=>(i,a.eval x)).toList=some C)
  (h:OW w os x) (hK:∀ g z,OW w (os ++ [rowO e sz (.slice (some ⟨g,0,none⟩) len len) len C.toList]) z→Below x.heap.size x z→wpList P ops Q rest (a.put o.dst (.slice (some ⟨g,0,none⟩) len len)) z):wpList P ops Q (o::rest) a x :=
 BigFrame.wpList_want hgd fun _ hk=>wpo_build ho C hS z hz hsm hp hm hsz hf h fun g z hz hb=>hk _ _ (hK g z hz hb)
theorem wl_box {t:TypeId} (hgd:Region.wanted o (yielded ops a.tmps)=true) (y:Operand) (ho:o.op = .box t y) (cs:List Value) (hx:(a.eval y).cells=cs.toArray) (h:OW w os x) (hK:∀ g z,OW w (os ++ [boxO g cs]) z→Below x.heap.size x z→wpList P ops Q rest (a.put o.dst (.pointer (some ⟨g,0,none⟩))) z):wpList P ops Q (o::rest) a x :=
 BigFrame.wpList_want hgd fun _ hk=>wpo_box ho cs hx h fun g z hz hb=>hk _ _ (hK g z hz hb)
theorem wl_alloc {t:TypeId} (hgd:Region.wanted o (yielded ops a.tmps)=true) (ho:o.op = .alloc t) (cs:List Value) (hz:(P.info? t).bind (·.zero)=some (.agg cs.toArray)∨∃ v:Value,(P.info? t).bind (·.zero)=some v∧v.cells=cs.toArray) (h:OW w os x) (hK:∀ g z,OW w (os ++ [boxO g cs]) z→Below x.heap.size x z→wpList P ops Q rest (a.put o.dst (.pointer (some ⟨g,0,none⟩))) z):wpList P ops Q (o::rest) a x :=
 BigFrame.wpList_want hgd fun _ hk=>wpo_alloc ho cs hz h fun g z hz hb=>hk _ _ (hK g z hz hb)
theorem wl_put {t:TypeId} (hgd:Region.wanted o (yielded ops a.tmps)=true) (p y:Operand) (ho:o.op = .store t p y) (h:OW w os x) (i:Nat) {g:Nat} {cs:List Value} (hi:os[i]?=some (boxO g cs)) (hx:a.eval p = .pointer (some ⟨g,0,none⟩)) (vs:List Value) (hy:a.eval y = .agg vs.toArray) (hl:vs.length=cs.length) (ht:(P.info? t).map (·.size)=some vs.length) (h1:∀ u ∈ vs,u.oneCell'=true)
  (hK:∀ z,OW w (os.set i (boxO g vs)) z→Chg (fun b=>b=g) x z→wpList P ops Q rest (a.put o.dst undef) z):wpList P ops Q (o::rest) a x :=
 BigFrame.wpList_want hgd fun _ hk=>wpo_put ho h i hi hx vs hy hl ht h1 fun z hz hc=>hk _ _ (hK z hz hc)
theorem wl_put1 {t:TypeId} (hgd:Region.wanted o (yielded ops a.tmps)=true) (p y:Operand) (ho:o.op = .store t p y) (h:OW w os x) (i:Nat) {g:Nat} {cs:List Value} (hi:os[i]?=some (boxO g cs)) (j:Nat) (hx:a.eval p = .pointer (some ⟨g,j,none⟩)) (hj:j < cs.length) (v:Value) (hy:a.eval y=v) (ht:(P.info? t).map (·.size)=some 1) (h1:v.oneCell'=true)
  (hK:∀ z,OW w (os.set i (boxO g (cs.set j v))) z→Chg (fun b=>b=g) x z→wpList P ops Q rest (a.put o.dst undef) z):wpList P ops Q (o::rest) a x :=
 BigFrame.wpList_want hgd fun _ hk=>wpo_put1 ho h i hi j hx hj v hy ht h1 fun z hz hc=>hk _ _ (hK z hz hc)
end
theorem setCells_chgo (g:Nat) (vs:List Value):∀ (o:Nat) (x:World),Chg (fun b=>b=g) x (x.setCells g o vs):=fun o x=>setCells_chg g vs o x
def midL (cs:List Value) (o:Nat) (vs:List Value):List Value:=cs.take o ++ vs ++ cs.drop (o + vs.length)
section
variable {w x y : World} {os os' ps : List Ob} {g o : Nat} {cs vs : List Value}
theorem rangeAt_part {b:Nat} (h:x.rangeAt b 0 cs) (k n:Nat):x.rangeAt b k ((cs.drop k).take n):=fun j v hj=>by
 rw [List.getElem?_take] at hj
 split at hj
 ·rw [List.getElem?_drop] at hj
  have:=h (k + j) v hj
  rwa [Nat.zero_add] at this
 ·cases hj
theorem OW.part (h:OW w os x) {i:Nat} (hi:os[i]?=some (boxO g cs)) (k n:Nat):x.rangeAt g k ((cs.drop k).take n):=rangeAt_part (h.range hi) k n
theorem OW.putAt (h:OW w os x) {i:Nat} (hi:os[i]?=some (boxO g cs)) (hl:o + vs.length≤cs.length):OW w (os.set i (boxO g (midL cs o vs))) (x.setCells g o vs):=by
 obtain ⟨h1,h2,h3,h4⟩:=h.box hi
 have ht:x.there g o vs.length:=fun j hj=>⟨by
  have:=h3.isSome (o + j) (by omega)
  rwa [Nat.zero_add] at this,h4 _⟩
 refine h.putR hi (setCells_chgo g vs o x) (fun j v hj=>?_) fun q=>World.frozen?_setCells _ _ _ _ _
 rw [Nat.zero_add]
 unfold midL at hj
 have lt:(cs.take o).length=o:=by rw [List.length_take];omega
 rcases Nat.lt_or_ge j o with h5 | h5
 ·rw [List.append_assoc,List.getElem?_append_left (by omega),List.getElem?_take_of_lt h5] at hj
  have h6:x.rangeAt g 0 (cs.take o):=fun q u hq=>h3 q u (by
   rw [List.getElem?_take] at hq
   split at hq
   ·exact hq
   ·cases hq)
  have h7:=World.rangeAt_setCells_apart h6 g o vs (.inr (.inl (by omega)))
  have:=h7 j v (by rw [List.getElem?_take_of_lt h5];exact hj)
  rwa [Nat.zero_add] at this
 ·rcases Nat.lt_or_ge j (o + vs.length) with h6 | h6
  ·rw [List.getElem?_append_left (by rw [List.length_append];omega),List.getElem?_append_right (by omega),lt] at hj
   have h7:=World.rangeAt_setCells_same x g o vs ht (j - o) v hj
   rwa [show o + (j - o)=j from by omega] at h7
  ·rw [List.getElem?_append_right (by rw [List.length_append];omega),List.length_append,lt,List.getElem?_drop] at hj
   have h8:x.rangeAt g (o + vs.length) (cs.drop (o + vs.length)):=fun q u hq=>by
    rw [List.getElem?_drop] at hq
    have:=h3 _ u hq
    rwa [Nat.zero_add] at this
   have h7:=World.rangeAt_setCells_apart h8 g o vs (.inr (.inr (Nat.le_refl _)))
   have:=h7 (j - (o + vs.length)) v (by rw [List.getElem?_drop];exact hj)
   rwa [show o + vs.length + (j - (o + vs.length))=j from by omega] at this
end
section
variable {P : Program} {ops : Array Oper} {Q : Exit → Act → World → Prop} {K : Act → World → Prop} {rest : List Oper} {o : Oper} {a : Act} {w x : World} {os : List Ob}
theorem wp_load_at {ty:TypeId} {y:Operand} (ho:o.op = .load ty y) {g k:Nat} {cs:List Value} (hx:a.eval y = .pointer (some ⟨g,k,none⟩)) (hr:w.rangeAt g k cs) (ht:RowTy P ty cs.length)
  (hK:K (a.put o.dst (.agg cs.toArray)) w):o.wp P a w K Q:=by
 obtain ⟨⟨d,hu,hd⟩,hi⟩:=ht
 exact wp_load_mid ty y ho g k hx cs d hr hu hd hi hK
theorem wpList_load_at (hgd:Region.wanted o (yielded ops a.tmps)=true) (ty:TypeId) (y:Operand) (ho:o.op = .load ty y) {g k:Nat} {cs:List Value} (hx:a.eval y = .pointer (some ⟨g,k,none⟩)) (hr:w.rangeAt g k cs) (ht:RowTy P ty cs.length)
  (hK:wpList P ops Q rest (a.put o.dst (.agg cs.toArray)) w):wpList P ops Q (o::rest) a w :=
 BigFrame.wpList_want hgd fun _ h=>wp_load_at ho hx hr ht (h _ _ hK)
theorem wpo_putAt {t:TypeId} {p y:Operand} (ho:o.op = .store t p y) (h:OW w os x) (i:Nat) {g k:Nat} {cs:List Value} (hi:os[i]?=some (boxO g cs)) (hx:a.eval p = .pointer (some ⟨g,k,none⟩)) (vs:List Value) (hy:a.eval y = .agg vs.toArray) (hl:k + vs.length≤cs.length) (ht:(P.info? t).map (·.size)=some vs.length) (h1:∀ u ∈ vs,u.oneCell'=true)
  (hK:∀ z,OW w (os.set i (boxO g (midL cs k vs))) z→Chg (fun b=>b=g) x z→K (a.put o.dst undef) z):o.wp P a x K Q :=
 wp_store_mid t p y ho g k vs.toArray hx hy (fun j hj=>⟨by
  have:=(h.range hi).isSome (k + j) (by simp at hj;omega)
  rwa [Nat.zero_add] at this,h.fz hi _⟩) (by simpa using ht) (all_oneCell_toArray h1) (hK _ (h.putAt hi hl) (setCells_chgo g vs k x))
theorem wl_putAt {t:TypeId} (hgd:Region.wanted o (yielded ops a.tmps)=true) (p y:Operand) (ho:o.op = .store t p y) (h:OW w os x) (i:Nat) {g k:Nat} {cs:List Value} (hi:os[i]?=some (boxO g cs)) (hx:a.eval p = .pointer (some ⟨g,k,none⟩)) (vs:List Value) (hy:a.eval y = .agg vs.toArray) (hl:k + vs.length≤cs.length) (ht:(P.info? t).map (·.size)=some vs.length) (h1:∀ u ∈ vs,u.oneCell'=true)
  (hK:∀ z,OW w (os.set i (boxO g (midL cs k vs))) z→Chg (fun b=>b=g) x z→wpList P ops Q rest (a.put o.dst undef) z):wpList P ops Q (o::rest) a x :=
 BigFrame.wpList_want hgd fun _ hk=>wpo_putAt ho h i hi hx vs hy hl ht h1 fun z hz hc=>hk _ _ (hK z hz hc)
end
theorem bytO_app (T:TypeId) (A:Option Addr) (c n m:Nat) (l r:List UInt8) (hn:l.length=n) (hm:r.length=m):rowO T 1 (.slice A (n + m) c) (n + m) (u8s l ++ u8s r)=bytO T (A,c,l ++ r):=by
 subst hn;subst hm
 unfold bytO rowO
 simp [u8s]
section
variable {P : Program} {ops : Array Oper} {Q : Exit → Act → World → Prop} {K : Act → World → Prop} {rest : List Oper} {o : Oper} {a : Act} {w x : World} {os : List Ob}
theorem wpo_appB {t e:TypeId} (s y:Operand) (ho:o.op = .call { callee := .builtin .append,args:=#[s,y],argTypes:=#[t,t] }) (hS:SliceOf P t e 1 1) (h:OW w os x) (i:Nat) {A:Option Addr} {c n:Nat} {l:List UInt8} (hi:os[i]?=some (bytO e (A,c,l))) (hn:l.length=n) (hs:a.eval s = .slice A n c)
  (B:Nat) (A2:Option Addr) (m c2:Nat) (r:List UInt8) (hy:a.eval y = .slice A2 m c2) (hr:RB x B A2 m r) (hb:n + m≤140737488355328)
  (hK:∀ A' c' z,OW w (os.set i (bytO e (A',c',l ++ r))) z→x.grownBy z (Value.slice A n c).ownBlock→K (a.put o.dst (.slice A' (n + m) c')) z):o.wp P a x K Q:=by
 subst hn
 refine wpo_append s y ho hS h i (v := .slice A l.length c) (n:=l.length) (cs:=u8s l) hi hs B A2 m c2 (u8s r) hy hr (u8s_one r) (by unfold maxLen;omega) (by omega) fun A' c' z hz hg=>hK A' c' z ?_ hg
 rw [bytO_app e A' c' _ m l r rfl hr.len] at hz
 exact hz
theorem wl_appB {t e:TypeId} (hgd:Region.wanted o (yielded ops a.tmps)=true) (s y:Operand) (ho:o.op = .call { callee := .builtin .append,args:=#[s,y],argTypes:=#[t,t] }) (hS:SliceOf P t e 1 1) (h:OW w os x) (i:Nat) {A:Option Addr} {c n:Nat} {l:List UInt8} (hi:os[i]?=some (bytO e (A,c,l))) (hn:l.length=n) (hs:a.eval s = .slice A n c)
  (B:Nat) (A2:Option Addr) (m c2:Nat) (r:List UInt8) (hy:a.eval y = .slice A2 m c2) (hr:RB x B A2 m r) (hb:n + m≤140737488355328)
  (hK:∀ A' c' z,OW w (os.set i (bytO e (A',c',l ++ r))) z→wpList P ops Q rest (a.put o.dst (.slice A' (n + m) c')) z):wpList P ops Q (o::rest) a x :=
 BigFrame.wpList_want hgd fun _ hk=>wpo_appB s y ho hS h i hi hn hs B A2 m c2 r hy hr hb fun A' c' z hz _=>hk _ _ (hK A' c' z hz)
theorem wl_make0 {t e:TypeId} {size bytes:Nat} (hg:o.guard=none) (l c:Operand) (hop:o.op=Op.makeSlice t l c) (hS:SliceOf P t e size bytes) (n:Nat) (C:Int) (hl:a.eval l = .int .i64 0) (hc:a.eval c = .int .i64 C) (hC:C=(n:Int)) (b2:bytes * n≤281474976710656) (b3:n≤maxLen) (h:OW w os x)
  (hK:∀ g z,OW w (os ++ [rowO e size (.slice (some ⟨g,0,none⟩) 0 n) 0 []]) z→Below x.heap.size x z→wpList P ops Q rest (a.put o.dst (.slice (some ⟨g,0,none⟩) 0 n)) z):wpList P ops Q (o::rest) a x:=by
 obtain ⟨ht,⟨i,z,hi,hz,hsz,hby,_⟩,_⟩:=hS
 subst hby
 refine wpList_make_own x hg l c t hop x.heap.size e i z size ht hi hz hsz .i64 .i64 C n hl hc hC b2 b3 (Nat.le_refl _) fun w' ho hgr=>?_
 have hb:=below_grown_none hgr
 exact hK _ _ (h.app (OW.row1 hb ho)) hb
end
theorem OW.nilRow {w x:World} {os:List Ob} (h:OW w os x) (T:TypeId) (sz:Nat):OW w (os ++ [rowO T sz (.slice none 0 0) 0 []]) x:=h.app ⟨Below.refl _ _,fun o ho=>by
 obtain rfl:=List.mem_singleton.1 ho
 exact ⟨(fun e=>nomatch e),fun _=>own_nil _ _ _ _⟩,List.pairwise_singleton _ _⟩
theorem OW.nilB {w x:World} {os:List Ob} (h:OW w os x) (T:TypeId):OW w (os ++ [bytO T (none,0,[])]) x:=h.nilRow T 1
theorem OW.bytes2 {w y:World} {T:TypeId} {A:Option Addr} {c:Nat} {l l':List UInt8} {v:Value} {k k':Int} {n:Nat} (h:OW w [bytO T (A,c,l)] y) (hl:l=l') (hn:l.length=n) (hk:k=k') (hv:v = .slice A n c):BytesPost2 T l' k' w (.returned (.tuple #[v,.int .i64 k])) y:=by
 subst hl;subst hk;subst hn;subst hv
 exact ⟨A,c,rfl,h.byt (i:=0) rfl,h.up⟩
theorem OW.bytes1 {w y:World} {T:TypeId} {A:Option Addr} {c:Nat} {l l':List UInt8} {v:Value} {n:Nat} (h:OW w [bytO T (A,c,l)] y) (hl:l=l') (hn:l.length=n) (hv:v = .slice A n c):BytesPost T l' w (.returned v) y:=by
 subst hl;subst hn;subst hv
 exact ⟨A,c,rfl,h.byt (i:=0) rfl,h.up⟩
def bytesIn (c:Nat) (l:List UInt8) (r:Obj):Prop:=∃ cur T,r = .cells cur T (0,0)∧c≤cur.size∧cur.toList.take l.length=u8s l
def clipO (A:Option Addr) (l:List UInt8):Ob:=match A with
 | none=>nilO
 | some a=>phiO a.block (bytesIn l.length l)
theorem bytesIn.at_ {c:Nat} {l:List UInt8} {r:Obj} {x:World} {g j:Nat} {b:UInt8} (h:bytesIn c l r) (hr:x.heap[g]?=some r) (hj:l[j]?=some b):x.cell? ⟨g,j,none⟩=some (u8v b):=by
 obtain ⟨cur,T,rfl,_,h2⟩:=h
 have hlt:j < l.length:=(List.getElem?_eq_some_iff.1 hj).1
 have h3:(cur.toList.take l.length)[j]?=(u8s l)[j]?:=by rw [h2]
 rw [List.getElem?_take_of_lt hlt,u8s_at hj] at h3
 simp [World.cell?,hr]
 simpa [u8v] using h3
def CAt (A:Option Addr) (l:List UInt8):Prop:=(A=none∧l=[])∨∃ g,A=some ⟨g,0,none⟩
section
variable {w x : World} {os : List Ob} {i c n : Nat} {T : TypeId} {A : Option Addr} {l : List UInt8}
theorem cat_of (h:OW w os x) (hi:os[i]?=some (bytO T (A,c,l))):CAt A l:=by
 have h1:=h.byt hi
 rcases h1.2 with ⟨hv,h0⟩ | ⟨g,cap,cur,hv,_⟩
 ·injection hv with hv
  exact .inl ⟨hv,List.eq_nil_of_length_eq_zero h0⟩
 ·injection hv with hv
  exact .inr ⟨g,hv⟩
theorem OW.clip (h:OW w os x) (hi:os[i]?=some (bytO T (A,c,l))):OW w (os.set i (clipO A l)) x:=by
 have h1:=h.byt hi
 refine h.upd hi (Chg.refl (fun _=>False) x) (fun _ _ e=>e.elim) ?_ fun b hb => .inl ?_
 ·rcases cat_of h hi with ⟨rfl,rfl⟩ | ⟨g,rfl⟩
  ·exact ⟨(fun e=>nomatch e),fun _=>own_nil _ _ _ _⟩
  ·obtain ⟨hl,h2⟩:=h1
   rcases h2 with ⟨hv,_⟩ | ⟨g',cap,cur,hv,h2,h3,h4,_,h5,h6⟩
   ·cases hv
   injection hv with hv hv2 hv3
   injection hv with hv;injection hv with hv
   subst hv
   exact Ob.at_mkr rfl ⟨g,_,rfl,h2,h3,cur,_,rfl,by rw [h5];omega,by rw [Nat.mul_one] at h6;exact h6⟩
 ·rcases cat_of h hi with ⟨rfl,rfl⟩ | ⟨g,rfl⟩
  ·cases hb
  ·exact hb
theorem OW.clipSl (h:OW w os x) (hc:CAt A l) (hi:os[i]?=some (clipO A l)) (hn:l.length=n) (hm:n≤9223372036854775807):Sl x A n n l:=by
 subst hn
 rcases hc with ⟨rfl,rfl⟩ | ⟨g,rfl⟩
 ·exact Sl.none _
 ·obtain ⟨k,r,h1,h2,h3,h4⟩:=(h.get (show os[i]?=some (phiO g (bytesIn l.length l)) from hi)).some_ rfl
  injection h1 with h1;injection h1 with h1;injection h1 with h1
  subst h1
  refine ⟨RB.mk' rfl fun _=>⟨g,0,rfl,(Array.getElem?_eq_some_iff.1 h3).1,fun j c hj=>?_⟩,Nat.le_refl _,hm,fun e=>by cases e⟩
  rw [Nat.zero_add]
  exact h4.at_ h3 hj
end
theorem results_rowL {P:Program} {fn:Func} {p:Tmp} {ty:TypeId} (h:fn.results=#[.cell p ty]) (tmps:Array Value) (w:World) (g:Nat) (cs:List Value)
  (hp:tmps.getD p undef = .pointer (some ⟨g,0,none⟩)) (hc:w.rangeAt g 0 cs)
  (ha:(P.underlying ty).map (fun d=>match d with | .struct _ | .array _ _=>true | _=>false)=some true) (hi:(P.info? ty).map (·.size)=some cs.length) :
  (results fn tmps).run P w = .ok (.agg cs.toArray) w :=
 results_box0 h tmps w g cs.toArray hp (fun j v hv=>by have:=hc j v (by simpa using hv);rwa [Nat.zero_add] at this) ha (by simpa using hi)
theorem results_rowL1 {P:Program} {fn:Func} {p t:Tmp} {ty:TypeId} (h:fn.results=#[.cell p ty,.tmp t]) (tmps:Array Value) (w:World) (g:Nat) (cs:List Value)
  (hp:tmps.getD p undef = .pointer (some ⟨g,0,none⟩)) (hc:w.rangeAt g 0 cs)
  (ha:(P.underlying ty).map (fun d=>match d with | .struct _ | .array _ _=>true | _=>false)=some true) (hi:(P.info? ty).map (·.size)=some cs.length) :
  (results fn tmps).run P w = .ok (.tuple #[.agg cs.toArray,tmps.getD t undef]) w :=
 results_box1 h tmps w g cs.toArray hp (fun j v hv=>by have:=hc j v (by simpa using hv);rwa [Nat.zero_add] at this) ha (by simpa using hi)
section
variable {P : Program} {ro : Option Nat} {n : Nat} {o : Oper} {a : Act} {w : World} {K K' : Act → World → Prop} {Q : Exit → Act → World → Prop}
end
section
variable {w x y : World} {os : List Ob} {i k : Nat} {r : Obj}
theorem OW.rawh (h:OW w os x) (hi:os[i]?=some (rawO k r)):w.heap.size≤k∧x.heap[k]?=some r:=by
 obtain ⟨k',r',h1,h2,h3,rfl⟩:=(h.get hi).some_ rfl
 injection h1 with h1;injection h1 with h1;injection h1 with h1
 subst h1;exact ⟨h2,h3⟩
theorem OW.raw1 (x:World) (r:Obj):OW x [rawO x.heap.size r] (x.alloc r) :=
 ⟨(Below.refl _ _).alloc (Nat.le_refl _) _,fun o ho=>by
  obtain rfl:=List.mem_singleton.1 ho
  exact Ob.at_mkr rfl ⟨x.heap.size,r,rfl,Nat.le_refl _,World.alloc_heap_new x r,rfl⟩,List.pairwise_singleton _ _⟩
end
section
variable {α : Type} {P : Program}
structure RBox (w x1:World) (g:Nat) (u:Value):Prop where
  up:Below w.heap.size w x1
  lo:w.heap.size≤g
  hi:g < x1.heap.size
  cell:x1.cell? ⟨g,0,none⟩=some u
  fz:x1.frozen? ⟨g,0,none⟩=false
theorem RBox.of {w x1:World} {g:Nat} {u:Value} (h:OW w [boxO g [u]] x1):RBox w x1 g u:=by
 obtain ⟨h1,h2,_,h4⟩:=h.box (i:=0) rfl
 exact ⟨h.up,h1,h2,h.cell (i:=0) (j:=0) rfl rfl,h4 0⟩
end
def fillIn (c N:Nat) (m:UInt8) (r:Obj):Prop:=∃ cur T,r = .cells cur T (0,0)∧c≤cur.size∧N≤c∧c≤maxLen∧∀ j,j < N→cur[j]?=some (u8v m)
def fillO (g c N:Nat) (m:UInt8):Ob:=⟨true,0,c,.pointer (some ⟨g,0,none⟩),N,[u8v m],some (fillIn c N m)⟩
def Marked (ks:List Ob) (A:Option Addr) (n cap:Nat) (m:UInt8):Prop:=(A=none∧n=0∧cap=0)∨∃ g c N,A=some ⟨g,0,none⟩∧n≤N∧n≤cap∧cap≤c∧fillO g c N m ∈ ks
def LeM (ks ks':List Ob):Prop:=∀ A n cap m,Marked ks A n cap m→Marked ks' A n cap m
theorem LeM.refl (ks:List Ob):LeM ks ks:=fun _ _ _ _ h=>h
theorem LeM.trans {a b c:List Ob} (h:LeM a b) (k:LeM b c):LeM a c:=fun A n cap m hm=>k A n cap m (h A n cap m hm)
theorem LeM.sub {a b:List Ob} (h:∀ o,o ∈ a→o ∈ b):LeM a b:=fun A n cap m hm=>by
 rcases hm with hm | ⟨g,c,N,h1,h2,h3,h4,h5⟩
 ·exact .inl hm
 ·exact .inr ⟨g,c,N,h1,h2,h3,h4,h _ h5⟩
theorem Marked.sub {ks:List Ob} {A:Option Addr} {n n' cap:Nat} {m:UInt8} (h:Marked ks A n cap m) (hn:n'≤n):Marked ks A n' cap m:=by
 rcases h with ⟨h1,h2,h3⟩ | ⟨g,c,N,h1,h2,h3,h4,h5⟩
 ·exact .inl ⟨h1,by omega,h3⟩
 ·exact .inr ⟨g,c,N,h1,by omega,by omega,h4,h5⟩
section
variable {w x : World} {os ks : List Ob} {g c N i : Nat} {m : UInt8}
theorem OW.fill (h:OW w os x) (hm:fillO g c N m ∈ os):∃ r,w.heap.size≤g∧x.heap[g]?=some r∧fillIn c N m r:=by
 obtain ⟨i,hi⟩:=List.getElem?_of_mem hm
 obtain ⟨k,r,h1,h2,h3,h4⟩:=(h.get hi).some_ rfl
 injection h1 with h1;injection h1 with h1;injection h1 with h1
 subst h1;exact ⟨r,h2,h3,h4⟩
theorem fillIn.cell {r:Obj} (h:fillIn c N m r) (hr:x.heap[g]?=some r) {j:Nat} (hj:j < N):x.cell? ⟨g,j,none⟩=some (u8v m):=by
 obtain ⟨cur,T,rfl,_,_,_,h4⟩:=h
 have:=h4 j hj
 simp [World.cell?,hr,this]
theorem fillIn.there {r:Obj} (h:fillIn c N m r) (hr:x.heap[g]?=some r) {j:Nat} (hj:j < c):(x.cell? ⟨g,j,none⟩).isSome=true∧x.frozen? ⟨g,j,none⟩=false:=by
 obtain ⟨cur,T,rfl,h1,_,_,_⟩:=h
 refine ⟨?_,?_⟩
 ·have:j < cur.size:=by omega
  simp [World.cell?,hr,this]
 ·simp [World.frozen?,hr]
end
section
variable {P : Program} {Q : Exit → Act → World → Prop} {K : Act → World → Prop} {o : Oper} {a : Act} {w x : World} {os ks : List Ob} {m : UInt8}
end
section
variable {P : Program} {Q : Exit → Act → World → Prop} {F : List Nat} {S : World → Prop} {l : List Oper} {listed : Array Bool} {fuel : Nat} {a : Act} {w : World}
end
set_option maxRecDepth 100000 in
set_option maxHeartbeats 400000 in
theorem halves_any (l:List UInt8) (A:Option Addr) (n c:Nat) (w:World) (hm:n≤9223372036854775807) (hr:RB w w.heap.size A n l) :
  Calls Tryz.prog 208 #[.slice A n c] w fun e w'=>e = .returned (.agg #[.int .u32 (hHi l),.int .u32 (hLo l)])∧Below w.heap.size w w':=by
 go_enter Tryz.func208,Tryz.ntmps208
 go_wp2
 go_loop [3,8] (fun h i=>∃ k:Nat,k≤n∧i = .int .i64 k∧∃ H:Nat,h = .int .u64 H∧Hid (H=hashN (l.take k))) (fun _ i=>n - (intOf i).toNat)
 case atStart=>exact ⟨0,Nat.zero_le _,rfl,hashN (l.take 0),rfl,Lib.hid rfl⟩
 case round =>
  obtain ⟨k,hk,rfl,H,rfl,hH⟩:=hrel
  by_cases hlt:k < n
  ·obtain ⟨b,o,x,rfl,hb,hx,hc⟩:=hr.at_ hlt
   have hne:w.heap.size ≠ b:=by omega
   have hs:Hid (((hStep H x:Nat):Int)=IntKind.u64.wrap (bits .xor .u64 (H:Int) (IntKind.u64.wrap (x.toNat:Int)) * 1099511628211)):=Lib.hid (hstep_walk H x (by rw [hH.out];exact hashN_lt _)).symm
   go_wp2
   go_round
   case rel=>exact ⟨k + 1,by omega,by go_num,hStep H x,by rw [hs.out],Lib.hid (by rw [take_snoc hx,hashN_snoc,← hH.out])⟩
   case measure=>simp [intOf];omega
  ·have e:H=hashN l:=by rw [hH.out,take_all (by rw [hr.len];omega)]
   have E:=Lib.hid e
   have h1:((hHi l:Nat):Int)=(H:Int) / 4294967296 % 4294967296:=by
    have:=hHi_lt l;rw [hHi_walk,e];unfold hHi at this ⊢;omega
   have h2:((hLo l:Nat):Int)=bits .or .u32 ((H:Int) % 4294967296) 1:=by rw [hLo_walk,e];rfl
   have H1:=Lib.hid h1
   have H2:=Lib.hid h2
   clear e h1 h2
   go_wp2
   refine bodyPost_ret (v := .agg #[.int .u32 (hHi l),.int .u32 (hLo l)]) ?_ rfl ⟨rfl,(Below.refl _ _).alloc (Nat.le_refl _) _⟩
   rw [H1.out,H2.out]
   simp [results,Tryz.results208,go_sem]
noncomputable def cntO {α:Type} (a:α) (l:List α):Nat:=@List.count α (@instBEqOfDecidableEq α (fun a b=>Classical.propDecidable (a=b))) a l
noncomputable def cnt1 {α:Type} (a x:α):Nat:=cntO a [x]
theorem cntO_app {α:Type} (a:α) (l m:List α):cntO a (l ++ m)=cntO a l + cntO a m:=by
 letI:DecidableEq α:=fun a b=>Classical.propDecidable (a=b)
 exact List.count_append
theorem cntO_cons {α:Type} (a x:α) (l:List α):cntO a (x::l)=cnt1 a x + cntO a l:=by
 unfold cnt1
 rw [← cntO_app];rfl
theorem cntO_nil {α:Type} (a:α):cntO a []=0:=by
 letI:DecidableEq α:=fun a b=>Classical.propDecidable (a=b)
 exact List.count_nil
theorem perm_of_cnt {α:Type} {l m:List α} (h:∀ a,cntO a l=cntO a m):l.Perm m:=by
 letI:DecidableEq α:=fun a b=>Classical.propDecidable (a=b)
 exact List.perm_iff_count.2 fun a=>h a
section
variable {P : Program} {Q : Exit → Act → World → Prop} {F : List Nat} {S : World → Prop} {l : List Oper} {listed : Array Bool} {fuel : Nat} {a : Act} {w : World}
end
section
variable {α : Type} {P : Program}
end
def bodyD (P:Program) (fn:Func) (R:Ending→World→Prop):Exit→Act→World→Prop
 | .normal,a,w | .ret,a,w=>Leaves P fn a.tmps R a.defers .returning w
 | _,_,_=>False
theorem calls_defer {P:Program} {f:FuncId} {fn:Func} {c:Code} {args:Array Value} {w:World} {R:Ending→World→Prop} (hf:P.funcs[f]?=some fn) (hb:fn.body=some c)
  (h:c.wp P (bodyD P fn R) { tmps:=args ++ Array.replicate (fn.ntmps - args.size) undef,defers:=[] } w):Calls P f args w R :=
 calls_of_wp_defers hf hb (wp_mono h fun e a w hq=>by
  cases e with
  | normal=>exact hq
  | ret=>exact hq
  | exit id=>exact hq.elim
  | goto l=>exact hq.elim
  | panic ch=>exact hq.elim
  | outgrown=>exact hq.elim)
theorem run_loadVar1 {P:Program} {ty:TypeId} {w:World} {a:Addr} {v:Value} (hc:w.cell? a=some v) (ha:∀ w,(isAgg ty).run P w = .ok false w):(loadVar ty a).run P w = .ok v w:=by
 simp [loadVar,Sem.run_bind,ha w]
 simp [go_sem,hc]
theorem results_three {P:Program} {fn:Func} {p k q:Tmp} {ty tk tq:TypeId} (h:fn.results=#[.cell p ty,.cell k tk,.cell q tq]) (tmps:Array Value) (w:World) (g gk gq:Nat) (cs:List Value) (vk vq:Value)
  (hp:tmps.getD p undef = .pointer (some ⟨g,0,none⟩)) (hk:tmps.getD k undef = .pointer (some ⟨gk,0,none⟩)) (hq:tmps.getD q undef = .pointer (some ⟨gq,0,none⟩)) (hc:w.rangeAt g 0 cs)
  (hck:w.cell? ⟨gk,0,none⟩=some vk) (hcq:w.cell? ⟨gq,0,none⟩=some vq) (hak:∀ w,(isAgg tk).run P w = .ok false w) (haq:∀ w,(isAgg tq).run P w = .ok false w)
  (ha:(P.underlying ty).map (fun d=>match d with | .struct _ | .array _ _=>true | _=>false)=some true) (hi:(P.info? ty).map (·.size)=some cs.length) :
  (results fn tmps).run P w = .ok (.tuple #[.agg cs.toArray,vk,vq]) w:=by
 have hp':tmps[p]?.getD undef = .pointer (some ⟨g,0,none⟩):=by simpa using hp
 have hk':tmps[k]?.getD undef = .pointer (some ⟨gk,0,none⟩):=by simpa using hk
 have hq':tmps[q]?.getD undef = .pointer (some ⟨gq,0,none⟩):=by simpa using hq
 have hc':∀ j v,cs.toArray[j]?=some v→w.cell? ⟨g,j,none⟩=some v:=fun j v hv=>by have:=hc j v (by simpa using hv);rwa [Nat.zero_add] at this
 simp [results,h,hp',hk',hq',asAddr,run_loadVar_at hc' ha (by simpa using hi),run_loadVar1 hck hak,run_loadVar1 hcq haq]
end Go.Proofs.YtfdbcfaeiglbeaaGreatDoor
namespace Go.Proofs.YtfdbcfaeiglbeaaGreatDoor
open Go.RowKit Go.WideShapes Go.ChangeShapes Go.Joins Go.Deep
section
variable {H : Type} {enc : TypeId × Value → H} {P : Program}
theorem trodAll_below (hl:laidOutB P=true) {W W':World} {sp:Nat→Bool}:∀ (ts:List TypeId) (vs:List Value) (ds:List (DataW H)) (ps:List MemPlace),
  (∀ t ∈ ts,P.readableRec t=true∧t < P.types.size)→DataW.TrodAll enc P W 0 (fun _=>true) true ts vs ds ps→(∀ p ∈ ps,W.sameAt W' p)→(∀ p ∈ ps,sp p.block=true) →
  DataW.TrodAll enc P W' 0 sp true ts vs ds ps
 | [],[],[],ps,_,h,_,_=>h
 | t::ts,v::vs,d::ds,ps,hr,h,hs,hp=>by
  obtain ⟨p,q,h1,h2,rfl⟩:=h
  refine ⟨p,q,WideElems.Trod_stays hl (hr t (by simp)).1 (hr t (by simp)).2 h1 (fun x hx=>hs x (by simp [hx])) (fun x hx=>hp x (by simp [hx])),?_,rfl⟩
  exact trodAll_below hl ts vs ds q (fun t ht=>hr t (by simp [ht])) h2 (fun x hx=>hs x (by simp [hx])) (fun x hx=>hp x (by simp [hx]))
 | [],_::_,_,_,_,h,_,_=>h.elim
 | [],[],_::_,_,_,h,_,_=>h.elim
 | _::_,[],_,_,_,h,_,_=>h.elim
 | _::_,_::_,[],_,_,h,_,_=>h.elim
theorem law_post {f:Func} {s:ChangeSpec} {apart fresh handsOn again:Bool} {W W':World} {args:Array Value} {ds gs:List (DataW H)} {before:List MemPlace} {tb:TypeId}
  (hl:laidOutB P=true) (hr:∀ t ∈ f.params.toList,P.readableRec t=true∧t < P.types.size) (hv:s.vars=[])
  (hW:DataW.Whole enc P f.params.toList s.vars apart W args.toList ds gs before) (hres:f.resultTypes=#[tb]) (htb:P.underlying tb=some .bool)
  (hfn:s.fn H (ds ++ gs)={ results:=[.lit (.bool true)],args:=ds }) (hb:Below W.heap.size W W') :
  s.post enc P f apart fresh handsOn again W args (.bool true) W':=by
 have hlt:∀ p ∈ before,p.block < W.heap.size:=fun p hp=>hW.lt p hp
 obtain ⟨p,q,hA,hV,hpq,hz,hn⟩:=hW
 have hq:gs=[]∧q=[]:=by rw [hv] at hV;exact trodVars_none hV
 obtain ⟨rfl,rfl⟩:=hq
 rw [List.append_nil] at hpq
 subst hpq
 have hold:∀ x ∈ before,(fun b=>decide (b < W.heap.size)) x.block=true:=fun x hx=>by simpa using hlt x hx
 have hargs:∀ sp:Nat→Bool,(∀ x ∈ before,sp x.block=true)→DataW.TrodAll enc P W' 0 sp true f.params.toList args.toList ds before:=fun sp hsp =>
  trodAll_below hl _ _ _ _ hr hA (fun x hx=>hb.same (hlt x hx)) hsp
 have hvars:∀ sp:Nat→Bool,DataW.TrodVars enc P W' sp s.vars (s.fn H (ds ++ [])).vars []:=fun sp=>by rw [hv,hfn];rfl
 have hresv:∀ (b:Nat) (sp:Nat→Bool) (hd:Bool),DataW.TrodAll enc P W' b sp hd f.resultTypes.toList ((Value.bool true).resultList f.resultTypes.size) (s.fn H (ds ++ [])).results []:=by
  intro b sp hd
  rw [hfn,hres]
  exact trodAll_mk1 (shut_bool htb true)
 have hargs':∀ sp:Nat→Bool,(∀ x ∈ before,sp x.block=true)→DataW.TrodAll enc P W' 0 sp true f.params.toList args.toList (s.fn H (ds ++ [])).args before:=fun sp hsp=>by rw [hfn];exact hargs sp hsp
 refine ⟨ds,[],before,[],before,[],⟨before,[],hA,hV,by simp,hz,hn⟩,hresv _ _ _,hargs' _ hold,hvars _,World.keptBut_mono (fun x hx=>⟨hx,Or.inr (Or.inl hx)⟩) (hb.frame (· ∈ before)),fun _=>?_⟩
 refine ⟨?_,_,_,([] ++ before) ++ [],⟨[] ++ before,[],trodAll_append (hargs' _ (fun _ _=>rfl)) (hresv _ _ _),hvars _,rfl,?_,?_⟩,?_⟩
 ·exact ok_one hres rfl (okWide_bool_mk htb true)
 ·intro b off hp
  have hin:MemPlace.cell b off ∈ before:=by simpa using hp
  rw [hb.frozen (hlt _ hin)]
  exact hz b off hin
 ·intro ha
  have:=hn ha
  simpa using this
 ·intro x hx _
  simpa using hx
end
theorem list_of {α:Type} {Q:Nat→α→Prop}:∀ (n:Nat),(∀ i,i < n→∃ x,Q i x)→∃ l:List α,l.length=n∧∀ i x,l[i]?=some x→Q i x
 | 0,_=>⟨[],rfl,fun i x h=>by simp at h⟩
 | n + 1,h=>by
  obtain ⟨l,hl,hq⟩:=list_of n (fun i hi=>h i (by omega))
  obtain ⟨x,hx⟩:=h n (by omega)
  refine ⟨l ++ [x],by simp [hl],fun i y hy=>?_⟩
  rcases Nat.lt_or_ge i n with hi | hi
  ·rw [List.getElem?_append_left (by omega)] at hy
   exact hq i y hy
  ·have:i=n:=by
    have:=(List.getElem?_eq_some_iff.1 hy).1
    simp [hl] at this;omega
   subst this
   rw [List.getElem?_append_right (by omega)] at hy
   simp [hl] at hy
   subst hy;exact hx
theorem addr_add (a:Addr) (j:Nat) (ha:a.spot=none):a.add j=⟨a.block,a.off + j,none⟩:=by
 obtain ⟨b,o,sp⟩:=a
 simp at ha;subst ha
 unfold Addr.add
 split
 ·rename_i h;subst h;rfl
 ·rfl
theorem spot_none {w:World} {a:Addr} {v:Value} (h:w.cell? a=some v):a.spot=none:=by
 unfold World.cell? at h
 split at h
 ·split at h
  ·cases h
  ·rename_i h';simpa using h'
 ·cases h
theorem reads_of {w:World} {size n:Nat} {a:Addr} {xs:List Value} (hl:xs.length=n * size) (hs:0 < size) (h:∀ j u,xs[j]?=some u→w.cell? (a.add j)=some u):Reads w w.heap.size size (some a) n xs:=by
 refine ⟨hl,fun hn=>?_⟩
 have h0:0 < xs.length:=by rw [hl];exact Nat.mul_pos hn hs
 have hc:=h 0 _ (List.getElem?_eq_getElem h0)
 have e0:a.add 0=a:=by simp [Addr.add]
 rw [e0] at hc
 have hsp:=spot_none hc
 refine ⟨a.block,a.off,by obtain ⟨b,o,sp⟩:=a;simp at hsp;subst hsp;rfl,World.block_lt_of_cell? w a hc,fun j u hu=>?_⟩
 rw [← addr_add a j hsp]
 exact h j u hu
section
variable {H : Type} {enc : TypeId × Value → H} {P : Program} {w : World} {base : Nat} {spare : Nat → Bool} {held : Bool}
end
section
variable {H : Type} {enc : TypeId × Value → H} {P : Program} {w : World} {base : Nat} {spare : Nat → Bool} {held : Bool}
theorem open_slice_fields {t e:TypeId} {fs:Array Field} {fuel:Nat} {cs:List Value} {x:DataW H×List MemPlace} (ht:P.underlying t=some (.slice e)) (he:P.underlying e=some (.struct fs))
  (hone:oneCellFields P fs=true) (hC:P.cellsOf e=fs.size) (h:DataW.trod enc P w base spare held fuel t cs=some x) :
  (cs=[.slice none 0 0]∧x=(.nil,[])) ∨
  ∃ (a:Addr) (len cap m:Nat) (D:Nat→DataW H) (Pl:Nat→List MemPlace),cs=[.slice (some a) len cap]∧base≤a.block∧len≤cap∧cap≤maxLen∧m=(if spare a.block then cap else len) ∧
   x=(.slice ((List.range len).map D) ((List.range (m - len)).map fun j=>D (len + j)),MemPlace.row a (m * fs.size) ++ (List.range m).flatMap Pl) ∧
   ∀ i,i < m→∃ (ys:List (DataW H×List MemPlace)) (n:Nat),D i = .agg (ys.map (·.1))∧Pl i=ys.flatMap (·.2)∧ys.length=fs.size ∧
    ∀ (j:Nat) (f:Field),fs[j]?=some f→∃ (v:Value) (y:DataW H×List MemPlace),w.cell? (a.add (i * fs.size + j))=some v∧ys[j]?=some y∧DataW.trod enc P w base spare held n f.type [v]=some y:=by
 rcases open_slice ht h with h0 | ⟨a,len,cap,m,n,D,Pl,hcs,hb,hl,hm,hmm,hx,hi⟩
 ·exact .inl h0
 ·refine .inr ⟨a,len,cap,m,D,Pl,hcs,hb,hl,hm,hmm,by rw [hC] at hx;exact hx,fun i him=>?_⟩
  obtain ⟨cs',hc,ht'⟩:=hi i him
  rw [hC] at hc
  obtain ⟨ys,n',hn',hy,hlen,hyl,hf⟩:=DataW.trod_struct he ht'
  obtain ⟨_,hcl,hat⟩:=World.cells?_some hc
  simp only [Prod.mk.injEq] at hy
  refine ⟨ys,n',hy.1,hy.2,hyl,fun j f hj=>?_⟩
  obtain ⟨ho,hk⟩:=hone_of hone j f hj
  have hjl:j < fs.size:=(Array.getElem?_eq_some_iff.1 hj).1
  have hcell:=hat j hjl
  have hv:cs'[j]?=some (cs'[j]'(by omega)):=List.getElem?_eq_getElem (by omega)
  have h1:=hf j f hj
  rw [ho,hk] at h1
  have hone':(cs'.drop j).take 1=[cs'[j]'(by omega)]:=by
   rw [List.drop_eq_getElem_cons (by omega)]
   rfl
  rw [hone'] at h1
  have hys:ys[j]?=some (ys[j]'(by omega)):=List.getElem?_eq_getElem (by omega)
  refine ⟨_,_,?_,hys,h1.trans hys⟩
  rw [← Go.Deep.add_add,hcell,hv]
end
section
variable {H : Type} {enc : TypeId × Value → H} {P : Program} {w : World} {base : Nat} {spare : Nat → Bool} {held : Bool}
theorem open_bytes {t e:TypeId} {fuel:Nat} {cs:List Value} {x:DataW H×List MemPlace} (ht:P.underlying t=some (.slice e)) (he:P.underlying e=some (.int .u8)) (hC:P.cellsOf e=1)
  (h:DataW.trod enc P w base spare held fuel t cs=some x) :
  ∃ (A:Option Addr) (c:Nat) (l:List UInt8),cs=[.slice A l.length c]∧l.length≤c∧c≤9223372036854775807∧(A=none→c=0)∧RB w w.heap.size A l.length l:=by
 rcases open_slice1 ht hC h with ⟨rfl,_⟩ | ⟨a,len,cap,m,n,V,D,Pl,rfl,_,hl,hm,hmm,_,hi⟩
 ·exact ⟨none,0,[],rfl,by simp,by omega,fun _=>rfl,RB.nil⟩
 ·have hlm:len≤m:=by rw [hmm];split <;> omega
  obtain ⟨l,hll,hq⟩:=list_of (Q:=fun i (b:UInt8)=>w.cell? (a.add i)=some (.int .u8 (b.toNat:Int))) len (fun i hi'=>by
   obtain ⟨h1,h2⟩:=hi i (by omega)
   obtain ⟨v,e0,_,hw⟩:=DataW.trod_int he h2
   injection e0 with e0 _
   have hw:0≤v∧v≤255:=by
    simp [Lit.wf,IntKind.min,IntKind.max,IntKind.signed,IntKind.bits] at hw
    omega
   refine ⟨UInt8.ofNat v.toNat,?_⟩
   rw [h1,e0,UInt8.toNat_ofNat',Nat.mod_eq_of_lt (by omega),Int.toNat_of_nonneg hw.1])
  subst hll
  exact ⟨some a,cap,l,rfl,hl,hm,(fun e=>nomatch e),reads_of (by simp [u8s_length]) (by decide) fun j u hu=>by
   simp only [u8s,List.getElem?_map,Option.map_eq_some_iff] at hu
   obtain ⟨b,hb,rfl⟩:=hu
   exact hq j b hb⟩
theorem open_slice_top {r:Reach} {b0:Nat} {t e:TypeId} {v:Value} {d:DataW H} {ps:List MemPlace} (ht:P.underlying t=some (.slice e)) (hval:Value.okWide P w r b0 t v) (h:DataW.Trod enc P w base spare held t v d ps) :
  ∃ fuel,DataW.trod enc P w base spare held fuel t [v]=some (d,ps):=by
 obtain ⟨a,n,c,rfl⟩:=okWide_slice ht hval
 obtain ⟨fuel,hf⟩:=h
 exact ⟨fuel,hf⟩
end
theorem bulk_one {H:Type} (d:DataW H):1≤Rows.uptoBulk d:=by
 cases d with
 | lit l=>cases l <;> simp [Rows.uptoBulk]
 | nil=>simp [Rows.uptoBulk]
 | ptr d=>simp [Rows.uptoBulk]
 | slice elems spare=>simp [Rows.uptoBulk]
 | agg parts=>simp [Rows.uptoBulk]
 | iface t d=>simp [Rows.uptoBulk]
 | map entries=>simp [Rows.uptoBulk]
 | held h=>simp [Rows.uptoBulk]
theorem bulk_len {H:Type} (l:List (DataW H)):l.length≤Rows.uptoBulkAll l:=by
 induction l with
 | nil=>simp [Rows.uptoBulkAll]
 | cons x r ih=>have:=bulk_one x;simp only [Rows.uptoBulkAll,List.length_cons];omega
section
variable {H : Type} {enc : TypeId × Value → H} {P : Program} {w : World} {base : Nat} {held : Bool}
theorem upto_bytes {t e:TypeId} {fuel:Nat} {cs:List Value} {x:DataW H×List MemPlace} (ht:P.underlying t=some (.slice e)) (he:P.underlying e=some (.int .u8)) (hC:P.cellsOf e=1)
  (h:DataW.trod enc P w base (fun _=>true) held fuel t cs=some x) :
  ∃ (A:Option Addr) (c:Nat) (l:List UInt8),cs=[.slice A l.length c]∧Sl w A l.length c l∧c + 1≤Rows.uptoBulk x.1:=by
 obtain ⟨A,c,l,h1,h2,h3,h4,h5⟩:=open_bytes ht he hC h
 refine ⟨A,c,l,h1,⟨h5,h2,h3,h4⟩,?_⟩
 rcases open_slice1 ht hC h with ⟨rfl,rfl⟩ | ⟨a,len,cap,m,n,V,D,Pl,rfl,_,hl,hm,hmm,hx,hi⟩
 ·injection h1 with h1
  injection h1 with _ _ h1
  subst h1
  simp [Rows.uptoBulk]
 ·injection h1 with h1
  injection h1 with _ _ h1
  subst h1
  rw [if_pos rfl] at hmm
  subst hmm
  rw [hx]
  simp only [Rows.uptoBulk]
  have e1:=bulk_len (H:=H) ((List.range len).map D)
  have e2:=bulk_len (H:=H) ((List.range (m - len)).map fun j=>D (len + j))
  simp only [List.length_map,List.length_range] at e1 e2
  omega
end
theorem bulk_mem {H:Type} {d:DataW H} {l:List (DataW H)} (h:d ∈ l):Rows.uptoBulk d≤Rows.uptoBulkAll l:=by
 induction l with
 | nil=>cases h
 | cons x l ih =>
  simp only [Rows.uptoBulkAll]
  rcases List.mem_cons.1 h with rfl | h
  ·omega
  ·have:=ih h;omega
section
variable {H : Type} {enc : TypeId × Value → H} {P : Program} {w : World} {base : Nat} {held : Bool}
theorem upto_structs {t e:TypeId} {fs:Array Field} {fuel:Nat} {cs:List Value} {x:DataW H×List MemPlace} (ht:P.underlying t=some (.slice e)) (he:P.underlying e=some (.struct fs))
  (hone:oneCellFields P fs=true) (hC:P.cellsOf e=fs.size) (h:DataW.trod enc P w base (fun _=>true) held fuel t cs=some x) :
  cs=[.slice none 0 0] ∨
  ∃ (a:Addr) (len cap:Nat),cs=[.slice (some a) len cap]∧len≤cap∧cap≤maxLen∧cap + 1≤Rows.uptoBulk x.1 ∧
   ∀ i,i < len→∀ (j:Nat) (f:Field),fs[j]?=some f→∃ (v:Value) (y:DataW H×List MemPlace) (n:Nat),w.cell? (a.add (i * fs.size + j))=some v∧DataW.trod enc P w base (fun _=>true) held n f.type [v]=some y∧Rows.uptoBulk y.1 + 1≤Rows.uptoBulk x.1:=by
 rcases open_slice_fields ht he hone hC h with ⟨h0,_⟩ | ⟨a,len,cap,m,D,Pl,hcs,hb,hl,hm,hmm,hx,hi⟩
 ·exact .inl h0
 ·rw [if_pos rfl] at hmm
  subst hmm
  refine .inr ⟨a,len,m,hcs,hl,hm,?_,fun i him j f hf=>?_⟩
  ·rw [hx]
   simp only [Rows.uptoBulk]
   have e1:=bulk_len (H:=H) ((List.range len).map D)
   have e2:=bulk_len (H:=H) ((List.range (m - len)).map fun j=>D (len + j))
   simp only [List.length_map,List.length_range] at e1 e2
   omega
  ·obtain ⟨ys,n,hD,_,hyl,hq⟩:=hi i (by omega)
   obtain ⟨v,y,hc,hy,ht'⟩:=hq j f hf
   refine ⟨v,y,n,hc,ht',?_⟩
   have h1:Rows.uptoBulk y.1≤Rows.uptoBulkAll (ys.map (·.1)):=bulk_mem (List.mem_map.2 ⟨y,List.mem_of_getElem? hy,rfl⟩)
   have h2:Rows.uptoBulk (D i)≤Rows.uptoBulkAll ((List.range len).map D):=bulk_mem (List.mem_map.2 ⟨i,List.mem_range.2 him,rfl⟩)
   rw [hD] at h2
   rw [hx]
   simp only [Rows.uptoBulk] at h2 ⊢
   omega
theorem field_int {k:IntKind} {t:TypeId} {v:Value} {y:DataW H×List MemPlace} {n:Nat} {sp:Nat→Bool} (ht:P.underlying t=some (.int k)) (h:DataW.trod enc P w base sp held n t [v]=some y):∃ z:Int,v = .int k z∧(Lit.int k z).wf=true:=by
 obtain ⟨z,e0,_,hw⟩:=DataW.trod_int ht h
 injection e0 with e0 _
 exact ⟨z,e0,hw⟩
theorem field_bytes {t e:TypeId} {v:Value} {y:DataW H×List MemPlace} {n:Nat} (ht:P.underlying t=some (.slice e)) (he:P.underlying e=some (.int .u8)) (hC:P.cellsOf e=1) (h:DataW.trod enc P w base (fun _=>true) held n t [v]=some y) :
  ∃ (A:Option Addr) (m c:Nat) (l:List UInt8),v = .slice A m c∧Sl w A m c l∧c + 1≤Rows.uptoBulk y.1:=by
 obtain ⟨A,c,l,e0,h1,h2⟩:=upto_bytes ht he hC h
 injection e0 with e0 _
 exact ⟨A,_,c,l,e0,h1,h2⟩
end
end Go.Proofs.YtfdbcfaeiglbeaaGreatDoor
